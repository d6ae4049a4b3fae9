/-
  Lemmas and contracts, joined.
-/
import Derived.Deep.QuietTactic
import Derived.BigQuiet
import Derived.Lib.AppendZeros
import Derived.Lib.SliceRun
import Derived.Test.YtenpkmgbaajeeaaGreatTwCp2
import Derived.Test.YtenpkmgbaajeeaaGreatTwCf1
import Derived.Test.YtenpkmgbaajeeaaGreatTwCc1
import Derived.Test.YtenpkmgbaajeeaaGreatTwCp1
import Derived.Test.YtenpkmgbaajeeaaGreatTwCa1
import Derived.Test.YtenpkmgbaajeeaaGreatTwCa2
set_option linter.unusedSimpArgs false
set_option linter.unusedVariables false
set_option linter.unnecessarySimpa false
/- A code of two levels: its parts, both sides. -/
namespace Go.Proofs.YtenpkmgbaajeeaaGreat
open Go.RowKit
set_option linter.unusedVariables false
set_option linter.unusedSimpArgs false

theorem fill_app (place : Nat → Option (Nat × Nat)) (pre mid post vs : List Value) (i off size : Nat) (v : Value) (rest : List (Nat × Value)) (hp : place i = some (off, size)) (hv : v.cells = vs.toArray) (h1 : pre.length = off) (h2 : mid.length = size) (h3 : vs.length = size) :
    Instr.fill place (pre ++ (mid ++ post)).toArray ((i, v) :: rest) = Instr.fill place ((pre ++ vs) ++ post).toArray rest := by
  rw [fill_step place _ i off size v vs rest hp hv h3 (by simp; omega)]
  have e1 : (pre ++ (mid ++ post)).take off = pre := by rw [← h1]; exact List.take_left
  have e2 : (pre ++ (mid ++ post)).drop (off + size) = post := by
    rw [← h1, ← h2, ← List.append_assoc, ← List.length_append]; exact List.drop_left
  show Instr.fill place ((pre ++ (mid ++ post)).take off ++ (vs ++ (pre ++ (mid ++ post)).drop (off + size))).toArray rest = _
  rw [e1, e2, List.append_assoc]
theorem built_steps (u b : Int) (k : List UInt8) (A : Option Addr) (n c : Nat) (B : Option Addr) (m d : Nat) (hk : k.length = 16) :
    Tryz.prog.built 29 [(0, .int .i64 u), (1, .int .i64 b), (2, .agg (cellsB k).toArray), (3, .agg #[.slice A n c, .slice B m d])] = some (.int .i64 u :: .int .i64 b :: (cellsB k ++ [.slice A n c, .slice B m d])).toArray := by
  have r1 : (cellsB k).length = 16 := by rw [cellsB_length, hk]
  have e : Tryz.prog.built 29 [(0, .int .i64 u), (1, .int .i64 b), (2, .agg (cellsB k).toArray), (3, .agg #[.slice A n c, .slice B m d])] = Instr.fill ((#[(0, 1), (1, 1), (2, 16), (18, 2)] : Array (Nat × Nat))[·]?) (([] : List Value) ++ ([Value.int .i64 0] ++ ([Value.int .i64 0] ++ ((cellsB zeroK : List Value) ++ ([Value.slice none 0 0, Value.slice none 0 0] ++ []))))).toArray [(0, .int .i64 u), (1, .int .i64 b), (2, .agg (cellsB k).toArray), (3, .agg #[.slice A n c, .slice B m d])] := by kernel_rfl
  refine e.trans ?_
  refine (fill_app _ [] [.int .i64 0] _ [.int .i64 u] 0 0 1 _ _ rfl rfl rfl rfl rfl).trans ?_
  refine (fill_app _ _ [.int .i64 0] _ [.int .i64 b] 1 1 1 _ _ rfl rfl rfl rfl rfl).trans ?_
  refine (fill_app _ _ (cellsB zeroK) _ (cellsB k) 2 2 16 _ _ rfl rfl rfl rfl r1).trans ?_
  refine (fill_app _ _ [.slice none 0 0, .slice none 0 0] _ [.slice A n c, .slice B m d] 3 18 2 _ _ rfl rfl (by simp [r1]) rfl rfl).trans ?_
  rw [Instr.fill]
  refine congrArg (fun l => some (List.toArray l)) ?_
  simp
section
variable {P : Program} {md : Region.Mode} {ops : Array Oper} {Q : Exit → Act → World → Prop} {S : World → Prop} {fuel : Nat} {listed : Array Bool} {a : Act} {w : World}
theorem hd_build4 (i : Nat) {oi : Oper} (t : TypeId) (v0 v1 v2 v3 : Value) (cells : Array Value) (x0 x1 x2 x3 : Operand) (hi : ops[i]? = some oi) (ho : oi.op = .build t #[(0, x0), (1, x1), (2, x2), (3, x3)]) (hg : oi.guard = none)
    (hs : Region.noSelect ops = true) (hf : Region.free md ops listed i = true) (hr : (Region.ready md ops listed).contains i = true) (hQ : ∀ c a w, Q (.panic c) (a.put oi.dst (.agg cells)) w → Q (.panic c) a w)
    (h0 : a.eval x0 = v0) (h1 : a.eval x1 = v1) (h2 : a.eval x2 = v2) (h3 : a.eval x3 = v3) (hb : P.built t [(0, v0), (1, v1), (2, v2), (3, v3)] = some cells) (hw : S w)
    (h : wpAnyH P md ops Q S fuel (listed.setIfInBounds i true) (a.put oi.dst (.agg cells)) w) : wpAnyH P md ops Q S (fuel + 1) listed a w :=
  hd_build i t _ _ cells hi ho hg hs hf hr hQ (by simp [h0, h1, h2, h3]) hb hw h
end
/-- A code of two levels and where its limit lies. -/
structure LevV where
  g : Int
  m : Int
  b : Int
  k : List UInt8
  A : Option Addr
  ca : Nat
  x : List Nat
  Bd : Option Addr
  cb : Nat
  y : List Nat
def LevV.cs (s : LevV) : List Value := .int .i64 s.g :: .int .i64 s.m :: .int .i64 s.b :: (cellsB s.k ++ [.slice s.A s.x.length s.ca, .slice s.Bd s.y.length s.cb])
structure LevOK (w : World) (s : LevV) : Prop where
  k16 : s.k.length = 16
  hx : NR w s.A s.ca s.x
  hy : NR w s.Bd s.cb s.y
theorem LevOK.below {w w' : World} {s : LevV} (h : LevOK w s) (hb : Below w.heap.size w w') : LevOK w' s := ⟨h.k16, h.hx.below hb, h.hy.below hb⟩
theorem LevV.len {s : LevV} (h : s.k.length = 16) : s.cs.length = 21 := by simp [LevV.cs, cellsB_length, h]
theorem infoV {l : List Value} (h : l.length = 21) : (Tryz.prog.info? 60).map (·.size) = some l.toArray.size := by rw [List.size_toArray, h]; kernel_rfl
theorem infoV' {l : List Value} (h : l.length = 21) : (Tryz.prog.info? 60).map (·.size) = some l.length := by rw [h]; kernel_rfl
theorem LevV.cells {w : World} {g : Nat} {s : LevV} (hk : s.k.length = 16) (h : Blk w g 60 s.cs.toArray) :
    w.cell? ⟨g, 0, none⟩ = some (.int .i64 s.g) ∧ w.cell? ⟨g, 1, none⟩ = some (.int .i64 s.m) ∧ w.cell? ⟨g, 2, none⟩ = some (.int .i64 s.b) ∧ w.rangeAt g 3 (cellsB s.k) ∧ w.rangeAt g 19 [.slice s.A s.x.length s.ca, .slice s.Bd s.y.length s.cb] := by
  have e : (cellsB s.k).length = 16 := by rw [cellsB_length, hk]
  refine ⟨(h.cell 0).trans (by simp [LevV.cs]), (h.cell 1).trans (by simp [LevV.cs]), (h.cell 2).trans (by simp [LevV.cs]), fun j v hv => ?_, fun j v hv => ?_⟩
  · rw [h.cell, List.getElem?_toArray, LevV.cs, Nat.add_comm 3 j]
    simp only [List.getElem?_cons_succ]
    rw [List.getElem?_append_left (List.getElem?_eq_some_iff.1 hv).1]
    exact hv
  · rw [h.cell, List.getElem?_toArray, LevV.cs, show 19 + j = (16 + j) + 1 + 1 + 1 from by omega]
    simp only [List.getElem?_cons_succ]
    rw [List.getElem?_append_right (by omega), e, Nat.add_sub_cancel_left]
    exact hv
def zeroSt : Array Value := #[.int .i64 0, .int .i64 0, .int .u8 0, .int .u8 0, .int .u8 0, .int .u8 0, .int .u8 0, .int .u8 0, .int .u8 0, .int .u8 0, .int .u8 0, .int .u8 0, .int .u8 0, .int .u8 0, .int .u8 0, .int .u8 0, .int .u8 0, .int .u8 0, .slice none 0 0, .slice none 0 0]
def LevV.part (s : LevV) (i : Nat) : StV := ⟨if i = 0 then s.g else s.m, s.b, derS s.k 71 (UInt64.ofNat i), s.A, s.ca, s.x, s.Bd, s.cb, s.y⟩
theorem LevOK.part {w : World} {s : LevV} (h : LevOK w s) (i : Nat) : StOK w (s.part i) := ⟨rfl, h.hx, h.hy⟩
def LevV.ok (s : LevV) : Bool := (s.part 0).ok && (s.part 1).ok
theorem LevV.ok_part {s : LevV} (h : s.ok = true) (i : Nat) : (s.part i).ok = true := by
  unfold LevV.ok at h
  rw [Bool.and_eq_true] at h
  cases i with
  | zero => exact h.1
  | succ i =>
    have e : (s.part (i + 1)).ok = (s.part 1).ok := by simp [StV.ok, LevV.part]
    rw [e]
    exact h.2

set_option maxHeartbeats 8000000 in
set_option maxRecDepth 1000000 in
theorem part_any (l : LevV) (i : Nat) (w : World) (h : LevOK w l) (hi : i ≤ 1000000) :
    Calls Tryz.prog 91 #[.agg l.cs.toArray, .int .i64 (i : Int)] w fun e w' => e = .returned (.agg (l.part i).cs.toArray) ∧ Below w.heap.size w w' := by
  have hk := h.k16
  have HKK : Hid (l.k.length = 16) := hk
  obtain ⟨W0, hW0⟩ : ∃ W : World, W = w.alloc (.cells l.cs.toArray 60) := ⟨_, rfl⟩
  have b0 : Hid (Below w.heap.size w W0) := by unfold Hid; rw [hW0]; exact alloc_below _ _
  have x0 : Hid (Blk W0 w.heap.size 60 l.cs.toArray) := by unfold Hid; rw [hW0]; exact Blk.new w _ _
  obtain ⟨W1, hW1⟩ : ∃ W : World, W = W0.alloc (.cells zeroSt 29) := ⟨_, rfl⟩
  have b1 : Hid (Below W0.heap.size W0 W1) := by unfold Hid; rw [hW1]; exact alloc_bel _ _
  obtain ⟨zc, hzc⟩ : ∃ z, zeroSt = z := ⟨_, rfl⟩
  have hzs : zc.size = 20 := by rw [← hzc]; rfl
  have y1 : Hid (Blk W1 W0.heap.size 29 zc) := by unfold Hid; rw [hW1, ← hzc]; exact Blk.new _ _ _
  have HW0 := Lib.hid hW0
  have HW1 : Hid (W1 = W0.alloc (.cells #[.int .i64 0, .int .i64 0, .int .u8 0, .int .u8 0, .int .u8 0, .int .u8 0, .int .u8 0, .int .u8 0, .int .u8 0, .int .u8 0, .int .u8 0, .int .u8 0, .int .u8 0, .int .u8 0, .int .u8 0, .int .u8 0, .int .u8 0, .int .u8 0, .slice none 0 0, .slice none 0 0] 29)) := hW1
  have HR : Hid (∀ W, Below W0.heap.size W0 W → W.cell? ⟨w.heap.size, 0, none⟩ = some (.int .i64 l.g) ∧ W.cell? ⟨w.heap.size, 1, none⟩ = some (.int .i64 l.m) ∧ W.cell? ⟨w.heap.size, 2, none⟩ = some (.int .i64 l.b) ∧ W.rangeAt w.heap.size 3 (cellsB l.k) ∧ W.rangeAt w.heap.size 19 [.slice l.A l.x.length l.ca, .slice l.Bd l.y.length l.cb]) := fun W hW => LevV.cells hk (x0.out.below' hW)
  have HDE : Hid (∀ W, Calls Tryz.prog 120 #[.agg (cellsB l.k).toArray, .int .u8 71, .int .u64 (i : Int)] W fun e w' => e = .returned (.agg (cellsB (derS l.k 71 (UInt64.ofNat i))).toArray) ∧ Below W.heap.size W w') := fun W => by
    have := Derive_any l.k 71 (UInt64.ofNat i) W hk
    rwa [show ((UInt64.ofNat i).toNat : Int) = (i : Int) from by rw [UInt64.toNat_ofNat']; omega] at this
  have HDK : Hid ((derS l.k 71 (UInt64.ofNat i)).length = 16) := rfl
  obtain ⟨u, hu⟩ : ∃ u, (if i = 0 then l.g else l.m) = u := ⟨_, rfl⟩
  have HU0 : Hid (i = 0 → u = l.g) := fun h => by rw [← hu, if_pos h]
  have HU1 : Hid (i ≠ 0 → u = l.m) := fun h => by rw [← hu, if_neg h]
  have HF : Hid ((l.part i).cs = .int .i64 u :: .int .i64 l.b :: (cellsB (derS l.k 71 (UInt64.ofNat i)) ++ [.slice l.A l.x.length l.ca, .slice l.Bd l.y.length l.cb])) := by unfold Hid; rw [← hu]; rfl
  have HBU : Hid (Tryz.prog.built 29 [(0, .int .i64 u), (1, .int .i64 l.b), (2, .agg (cellsB (derS l.k 71 (UInt64.ofNat i))).toArray), (3, .agg #[.slice l.A l.x.length l.ca, .slice l.Bd l.y.length l.cb])] = some (l.part i).cs.toArray) := by
    unfold Hid
    rw [HF.out]
    exact built_steps _ _ _ _ _ _ _ _ _ rfl
  have HL : Hid ((l.part i).cs.length = 20) := StV.len rfl
  have HAL := Lib.hid (l.part i).all
  generalize (l.part i).cs = pc at HBU HL HAL ⊢
  generalize derS l.k 71 (UInt64.ofNat i) = dk at HDE HDK HBU
  generalize l.k = sk at *
  generalize l.A = A at *
  generalize l.Bd = Bd at *
  generalize l.x.length = n1 at *
  generalize l.y.length = n2 at *
  generalize l.ca = ca at *
  generalize l.cb = cb at *
  generalize l.b = b at *
  generalize l.g = gg at *
  generalize l.m = mm at *
  generalize l.cs = cs at *
  have ei : IntKind.u64.wrap (i : Int) = (i : Int) := by rw [IntKind.wrap_u64]; omega
  have ei0 : IntKind.u64.wrap 0 = 0 := by decide
  have mixed : Tryz.prog.follows Departure.mixedOrders = true := by kernel_rfl
  clear h hk hW0 hW1 hzc hu HF
  have HRW : Hid (∀ W, Below W0.heap.size W0 W → W.cell? ⟨w.heap.size, 2, none⟩ = some (.int .i64 b) ∧ W.rangeAt w.heap.size 3 (cellsB sk) ∧ W.rangeAt w.heap.size 19 [.slice A n1 ca, .slice Bd n2 cb]) := fun W hW => (HR.out W hW).2.2
  have HV : Hid (∀ v V, v = u → Below W0.heap.size W0 V → Blk V W0.heap.size 29 zc → True) := fun _ _ _ _ _ => trivial
  obtain ⟨c0, c1, -, -, -⟩ := HR.out _ b1.out
  by_cases hz : i = 0
  · have hu := HU0.out hz
    subst hu
    have hz2 : (i : Int) = 0 := by omega
    clear HU0 HU1 HV
    subst hz
    go_enter Tryz.func91, Tryz.ntmps91
    go_wp2_with (first | (rw [← HW0.out]) | (rw [← HW1.out]))
    obtain ⟨w2, hw2⟩ : ∃ W, W = W1.drew := ⟨_, rfl⟩
    have b2 : Below W0.heap.size W0 w2 := by rw [hw2]; exact b1.out.drew
    have y2 : Blk w2 W0.heap.size 29 zc := by rw [hw2]; exact y1.out.drew
    refine wp_region_noPanic ?_
    refine wp_region_held_drew (S := fun W => W.cell? ⟨w.heap.size, 2, none⟩ = some (.int .i64 b) ∧ W.rangeAt w.heap.size 3 (cellsB sk) ∧ W.rangeAt w.heap.size 19 [.slice A n1 ca, .slice Bd n2 cb]) (by kernel_rfl) (by rw [← hw2]; exact HRW.out _ b2) (fun hS => ?_)
    rw [← hw2] at hS ⊢
    clear hw2
    refine hd_take 0 (.int .i64 u) rfl rfl (by kernel_rfl) (by kernel_rfl) (by kernel_rfl) (fun _ _ _ h => h) (fun w hw => by go_simp) hS ?_
    refine hd_take 1 (.pointer (some ⟨w.heap.size, 2, none⟩)) rfl rfl (by kernel_rfl) (by kernel_rfl) (by kernel_rfl) (fun _ _ _ h => h) (fun w hw => by go_simp) hS ?_
    refine hd_take 3 (.pointer (some ⟨w.heap.size, 3, none⟩)) rfl rfl (by kernel_rfl) (by kernel_rfl) (by kernel_rfl) (fun _ _ _ h => h) (fun w hw => by go_simp) hS ?_
    refine hd_take 5 (.int .i64 0) rfl rfl (by kernel_rfl) (by kernel_rfl) (by kernel_rfl) (fun _ _ _ h => h) (fun w hw => by go_simp) hS ?_
    refine hd_take 8 (.pointer (some ⟨w.heap.size, 19, none⟩)) rfl rfl (by kernel_rfl) (by kernel_rfl) (by kernel_rfl) (fun _ _ _ h => h) (fun w hw => by go_simp) hS ?_
    simp only [List.getElem_toArray, List.getElem_cons_succ, List.getElem_cons_zero, Act.put, List.setIfInBounds_toArray, List.set_cons_zero, List.set_cons_succ]
    refine hd_take 2 (.int .i64 b) rfl rfl (by kernel_rfl) (by kernel_rfl) (by kernel_rfl) (fun _ _ _ h => h) (fun w hw => by have hx := hw.1; simp [go_sem, hx]) hS ?_
    refine hd_load 4 w.heap.size 3 (cellsB sk) 23 (.tmp 15) rfl rfl rfl (by kernel_rfl) (by kernel_rfl) (by kernel_rfl) (fun _ _ _ h => h) rfl (fun w hw => hw.2.1) under_key rfl (infoL16 (by rw [cellsB_length, HKK.out])) hS ?_
    refine hd_take 6 (.int .u64 0) rfl rfl (by kernel_rfl) (by kernel_rfl) (by kernel_rfl) (fun _ _ _ h => h) (fun w hw => by simp [go_sem, ei, ei0]) hS ?_
    refine hd_load 9 w.heap.size 19 [.slice A n1 ca, .slice Bd n2 cb] 27 (.tmp 20) rfl rfl rfl (by kernel_rfl) (by kernel_rfl) (by kernel_rfl) (fun _ _ _ h => h) rfl (fun w hw => hw.2.2) Tryz.underlying27 rfl (by kernel_rfl) hS ?_
    simp only [List.getElem_toArray, List.getElem_cons_succ, List.getElem_cons_zero, Act.put, List.setIfInBounds_toArray, List.set_cons_zero, List.set_cons_succ]
    refine hd_calls 7 120 #[.agg (cellsB sk).toArray, .int .u8 71, .int .u64 0] rfl rfl (by kernel_rfl) (by go_simp) ((HDE.out _).mono ?_)
    rintro e w3 ⟨rfl, hb⟩
    have b3 := bel_on b2 hb
    have y3 := y2.below' hb
    have hS3 := HRW.out _ b3
    refine ⟨_, rfl, hS3, ?_⟩
    simp only [List.getElem_toArray, List.getElem_cons_succ, List.getElem_cons_zero, Act.put, List.setIfInBounds_toArray, List.set_cons_zero, List.set_cons_succ]
    refine hd_build4 10 29 _ (.int .i64 b) (.agg (cellsB dk).toArray) (.agg #[.slice A n1 ca, .slice Bd n2 cb]) pc.toArray _ _ _ _ rfl rfl rfl (by kernel_rfl) (by kernel_rfl) (by kernel_rfl) (fun _ _ _ h => h) rfl rfl rfl rfl HBU.out hS3 ?_
    simp only [List.getElem_toArray, List.getElem_cons_succ, List.getElem_cons_zero, Act.put, List.setIfInBounds_toArray, List.set_cons_zero, List.set_cons_succ]
    have b4 := below_setRow b3 (Nat.le_refl _) pc.toArray
    refine hd_store 11 W0.heap.size pc.toArray 29 _ _ rfl rfl rfl (by kernel_rfl) rfl rfl y3 (by rw [List.size_toArray]; exact infoS HL.out) (by rw [hzs, List.size_toArray, HL.out]) HAL.out (HRW.out _ b4) ?_
    refine wpAnyH_done (by kernel_rfl) (NoPanic.normal ?_) _
    go_wp2_with fail
    exact bodyPost_ret (results_cell_row rfl _ _ W0.heap.size _ _ (0, 0) _ rfl (y3.setRow pc.toArray) Tryz.underlying29 rfl (by rw [List.size_toArray]; exact infoS HL.out)) rfl ⟨rfl, bel_on b0.out b4⟩
  · have hu := HU1.out hz
    subst hu
    have hz2 : ¬ ((i : Int) = 0) := by omega
    clear HU0 HU1 HV
    go_enter Tryz.func91, Tryz.ntmps91
    go_wp2_with (first | (rw [← HW0.out]) | (rw [← HW1.out]))
    obtain ⟨w2, hw2⟩ : ∃ W, W = W1.drew := ⟨_, rfl⟩
    have b2 : Below W0.heap.size W0 w2 := by rw [hw2]; exact b1.out.drew
    have y2 : Blk w2 W0.heap.size 29 zc := by rw [hw2]; exact y1.out.drew
    refine wp_region_noPanic ?_
    refine wp_region_held_drew (S := fun W => W.cell? ⟨w.heap.size, 2, none⟩ = some (.int .i64 b) ∧ W.rangeAt w.heap.size 3 (cellsB sk) ∧ W.rangeAt w.heap.size 19 [.slice A n1 ca, .slice Bd n2 cb]) (by kernel_rfl) (by rw [← hw2]; exact HRW.out _ b2) (fun hS => ?_)
    rw [← hw2] at hS ⊢
    clear hw2
    refine hd_take 0 (.int .i64 u) rfl rfl (by kernel_rfl) (by kernel_rfl) (by kernel_rfl) (fun _ _ _ h => h) (fun w hw => by go_simp) hS ?_
    refine hd_take 1 (.pointer (some ⟨w.heap.size, 2, none⟩)) rfl rfl (by kernel_rfl) (by kernel_rfl) (by kernel_rfl) (fun _ _ _ h => h) (fun w hw => by go_simp) hS ?_
    refine hd_take 3 (.pointer (some ⟨w.heap.size, 3, none⟩)) rfl rfl (by kernel_rfl) (by kernel_rfl) (by kernel_rfl) (fun _ _ _ h => h) (fun w hw => by go_simp) hS ?_
    refine hd_take 5 (.int .i64 (i : Int)) rfl rfl (by kernel_rfl) (by kernel_rfl) (by kernel_rfl) (fun _ _ _ h => h) (fun w hw => by go_simp) hS ?_
    refine hd_take 8 (.pointer (some ⟨w.heap.size, 19, none⟩)) rfl rfl (by kernel_rfl) (by kernel_rfl) (by kernel_rfl) (fun _ _ _ h => h) (fun w hw => by go_simp) hS ?_
    simp only [List.getElem_toArray, List.getElem_cons_succ, List.getElem_cons_zero, Act.put, List.setIfInBounds_toArray, List.set_cons_zero, List.set_cons_succ]
    refine hd_take 2 (.int .i64 b) rfl rfl (by kernel_rfl) (by kernel_rfl) (by kernel_rfl) (fun _ _ _ h => h) (fun w hw => by have hx := hw.1; simp [go_sem, hx]) hS ?_
    refine hd_load 4 w.heap.size 3 (cellsB sk) 23 (.tmp 15) rfl rfl rfl (by kernel_rfl) (by kernel_rfl) (by kernel_rfl) (fun _ _ _ h => h) rfl (fun w hw => hw.2.1) under_key rfl (infoL16 (by rw [cellsB_length, HKK.out])) hS ?_
    refine hd_take 6 (.int .u64 (i : Int)) rfl rfl (by kernel_rfl) (by kernel_rfl) (by kernel_rfl) (fun _ _ _ h => h) (fun w hw => by simp [go_sem, ei, ei0]) hS ?_
    refine hd_load 9 w.heap.size 19 [.slice A n1 ca, .slice Bd n2 cb] 27 (.tmp 20) rfl rfl rfl (by kernel_rfl) (by kernel_rfl) (by kernel_rfl) (fun _ _ _ h => h) rfl (fun w hw => hw.2.2) Tryz.underlying27 rfl (by kernel_rfl) hS ?_
    simp only [List.getElem_toArray, List.getElem_cons_succ, List.getElem_cons_zero, Act.put, List.setIfInBounds_toArray, List.set_cons_zero, List.set_cons_succ]
    refine hd_calls 7 120 #[.agg (cellsB sk).toArray, .int .u8 71, .int .u64 (i : Int)] rfl rfl (by kernel_rfl) (by go_simp) ((HDE.out _).mono ?_)
    rintro e w3 ⟨rfl, hb⟩
    have b3 := bel_on b2 hb
    have y3 := y2.below' hb
    have hS3 := HRW.out _ b3
    refine ⟨_, rfl, hS3, ?_⟩
    simp only [List.getElem_toArray, List.getElem_cons_succ, List.getElem_cons_zero, Act.put, List.setIfInBounds_toArray, List.set_cons_zero, List.set_cons_succ]
    refine hd_build4 10 29 _ (.int .i64 b) (.agg (cellsB dk).toArray) (.agg #[.slice A n1 ca, .slice Bd n2 cb]) pc.toArray _ _ _ _ rfl rfl rfl (by kernel_rfl) (by kernel_rfl) (by kernel_rfl) (fun _ _ _ h => h) rfl rfl rfl rfl HBU.out hS3 ?_
    simp only [List.getElem_toArray, List.getElem_cons_succ, List.getElem_cons_zero, Act.put, List.setIfInBounds_toArray, List.set_cons_zero, List.set_cons_succ]
    have b4 := below_setRow b3 (Nat.le_refl _) pc.toArray
    refine hd_store 11 W0.heap.size pc.toArray 29 _ _ rfl rfl rfl (by kernel_rfl) rfl rfl y3 (by rw [List.size_toArray]; exact infoS HL.out) (by rw [hzs, List.size_toArray, HL.out]) HAL.out (HRW.out _ b4) ?_
    refine wpAnyH_done (by kernel_rfl) (NoPanic.normal ?_) _
    go_wp2_with fail
    exact bodyPost_ret (results_cell_row rfl _ _ W0.heap.size _ _ (0, 0) _ rfl (y3.setRow pc.toArray) Tryz.underlying29 rfl (by rw [List.size_toArray]; exact infoS HL.out)) rfl ⟨rfl, bel_on b0.out b4⟩

set_option maxHeartbeats 8000000 in
set_option maxRecDepth 1000000 in
theorem GroupsOf_any (l : LevV) (w : World) (h : LevOK w l) :
    Calls Tryz.prog 92 #[.agg l.cs.toArray] w fun e w' => e = .returned (.agg (l.part 0).cs.toArray) ∧ Below w.heap.size w w' := by
  have hk := h.k16
  have HKK : Hid (l.k.length = 16) := hk
  obtain ⟨W0, hW0⟩ : ∃ W : World, W = w.alloc (.cells l.cs.toArray 60) := ⟨_, rfl⟩
  have b0 : Hid (Below w.heap.size w W0) := by unfold Hid; rw [hW0]; exact alloc_below _ _
  have x0 : Hid (Blk W0 w.heap.size 60 l.cs.toArray) := by unfold Hid; rw [hW0]; exact Blk.new w _ _
  obtain ⟨W1, hW1⟩ : ∃ W : World, W = W0.alloc (.cells zeroSt 29) := ⟨_, rfl⟩
  have b1 : Hid (Below W0.heap.size W0 W1) := by unfold Hid; rw [hW1]; exact alloc_bel _ _
  obtain ⟨zc, hzc⟩ : ∃ z, zeroSt = z := ⟨_, rfl⟩
  have hzs : zc.size = 20 := by rw [← hzc]; rfl
  have y1 : Hid (Blk W1 W0.heap.size 29 zc) := by unfold Hid; rw [hW1, ← hzc]; exact Blk.new _ _ _
  have HW0 := Lib.hid hW0
  have HW1 : Hid (W1 = W0.alloc (.cells #[.int .i64 0, .int .i64 0, .int .u8 0, .int .u8 0, .int .u8 0, .int .u8 0, .int .u8 0, .int .u8 0, .int .u8 0, .int .u8 0, .int .u8 0, .int .u8 0, .int .u8 0, .int .u8 0, .int .u8 0, .int .u8 0, .int .u8 0, .int .u8 0, .slice none 0 0, .slice none 0 0] 29)) := hW1
  have HR : Hid (∀ W, Below W0.heap.size W0 W → W.cell? ⟨w.heap.size, 0, none⟩ = some (.int .i64 l.g) ∧ W.cell? ⟨w.heap.size, 1, none⟩ = some (.int .i64 l.m) ∧ W.cell? ⟨w.heap.size, 2, none⟩ = some (.int .i64 l.b) ∧ W.rangeAt w.heap.size 3 (cellsB l.k) ∧ W.rangeAt w.heap.size 19 [.slice l.A l.x.length l.ca, .slice l.Bd l.y.length l.cb]) := fun W hW => LevV.cells hk (x0.out.below' hW)
  have HDE : Hid (∀ W, Calls Tryz.prog 119 #[.agg (cellsB l.k).toArray, .int .u8 71, .int .u64 0] W fun e w' => e = .returned (.agg (cellsB (derS l.k 71 (UInt64.ofNat 0))).toArray) ∧ Below W.heap.size W w') := fun W => by
    have := refDerive_any l.k 71 (UInt64.ofNat 0) W hk
    rwa [show ((UInt64.ofNat 0).toNat : Int) = 0 from by first | rfl | (rw [UInt64.toNat_ofNat']; omega)] at this
  have HDK : Hid ((derS l.k 71 (UInt64.ofNat 0)).length = 16) := rfl
  have HF : Hid ((l.part 0).cs = .int .i64 l.g :: .int .i64 l.b :: (cellsB (derS l.k 71 (UInt64.ofNat 0)) ++ [.slice l.A l.x.length l.ca, .slice l.Bd l.y.length l.cb])) := rfl
  have HBU : Hid (Tryz.prog.built 29 [(0, .int .i64 l.g), (1, .int .i64 l.b), (2, .agg (cellsB (derS l.k 71 (UInt64.ofNat 0))).toArray), (3, .agg #[.slice l.A l.x.length l.ca, .slice l.Bd l.y.length l.cb])] = some (l.part 0).cs.toArray) := by
    unfold Hid
    rw [HF.out]
    exact built_steps _ _ _ _ _ _ _ _ _ rfl
  have HL : Hid ((l.part 0).cs.length = 20) := StV.len rfl
  have HAL := Lib.hid (l.part 0).all
  generalize (l.part 0).cs = pc at HBU HL HAL ⊢
  generalize derS l.k 71 (UInt64.ofNat 0) = dk at HDE HDK HBU
  generalize l.k = sk at *
  generalize l.A = A at *
  generalize l.Bd = Bd at *
  generalize l.x.length = n1 at *
  generalize l.y.length = n2 at *
  generalize l.ca = ca at *
  generalize l.cb = cb at *
  generalize l.b = b at *
  generalize l.g = gg at *
  generalize l.m = mm at *
  generalize l.cs = cs at *
  have mixed : Tryz.prog.follows Departure.mixedOrders = true := by kernel_rfl
  clear h hk hW0 hW1 hzc HF
  go_enter Tryz.func92, Tryz.ntmps92
  go_wp2_with (first | (rw [← HW0.out]) | (rw [← HW1.out]))
  obtain ⟨w2, hw2⟩ : ∃ W, W = W1.drew := ⟨_, rfl⟩
  have b2 : Below W0.heap.size W0 w2 := by rw [hw2]; exact b1.out.drew
  have y2 : Blk w2 W0.heap.size 29 zc := by rw [hw2]; exact y1.out.drew
  refine wp_region_noPanic ?_
  refine wp_region_held_drew (S := fun W => W.cell? ⟨w.heap.size, 0, none⟩ = some (.int .i64 gg) ∧ W.cell? ⟨w.heap.size, 1, none⟩ = some (.int .i64 mm) ∧ W.cell? ⟨w.heap.size, 2, none⟩ = some (.int .i64 b) ∧ W.rangeAt w.heap.size 3 (cellsB sk) ∧ W.rangeAt w.heap.size 19 [.slice A n1 ca, .slice Bd n2 cb]) (by kernel_rfl) (by rw [← hw2]; exact HR.out _ b2) (fun hS => ?_)
  rw [← hw2] at hS ⊢
  clear hw2
  refine hd_take 0 (.pointer (some ⟨w.heap.size, 0, none⟩)) rfl rfl (by kernel_rfl) (by kernel_rfl) (by kernel_rfl) (fun _ _ _ h => h) (fun w hw => by go_simp) hS ?_
  refine hd_take 2 (.pointer (some ⟨w.heap.size, 2, none⟩)) rfl rfl (by kernel_rfl) (by kernel_rfl) (by kernel_rfl) (fun _ _ _ h => h) (fun w hw => by go_simp) hS ?_
  refine hd_take 4 (.pointer (some ⟨w.heap.size, 3, none⟩)) rfl rfl (by kernel_rfl) (by kernel_rfl) (by kernel_rfl) (fun _ _ _ h => h) (fun w hw => by go_simp) hS ?_
  refine hd_take 7 (.pointer (some ⟨w.heap.size, 19, none⟩)) rfl rfl (by kernel_rfl) (by kernel_rfl) (by kernel_rfl) (fun _ _ _ h => h) (fun w hw => by go_simp) hS ?_
  simp only [List.getElem_toArray, List.getElem_cons_succ, List.getElem_cons_zero, Act.put, List.setIfInBounds_toArray, List.set_cons_zero, List.set_cons_succ]
  refine hd_take 1 (.int .i64 gg) rfl rfl (by kernel_rfl) (by kernel_rfl) (by kernel_rfl) (fun _ _ _ h => h) (fun w hw => by have hx := hw.1; simp [go_sem, hx]) hS ?_
  refine hd_take 3 (.int .i64 b) rfl rfl (by kernel_rfl) (by kernel_rfl) (by kernel_rfl) (fun _ _ _ h => h) (fun w hw => by have hx := hw.2.2.1; simp [go_sem, hx]) hS ?_
  refine hd_load 5 w.heap.size 3 (cellsB sk) 23 (.tmp 7) rfl rfl rfl (by kernel_rfl) (by kernel_rfl) (by kernel_rfl) (fun _ _ _ h => h) rfl (fun w hw => hw.2.2.2.1) under_key rfl (infoL16 (by rw [cellsB_length, HKK.out])) hS ?_
  refine hd_load 8 w.heap.size 19 [.slice A n1 ca, .slice Bd n2 cb] 27 (.tmp 10) rfl rfl rfl (by kernel_rfl) (by kernel_rfl) (by kernel_rfl) (fun _ _ _ h => h) rfl (fun w hw => hw.2.2.2.2) Tryz.underlying27 rfl (by kernel_rfl) hS ?_
  simp only [List.getElem_toArray, List.getElem_cons_succ, List.getElem_cons_zero, Act.put, List.setIfInBounds_toArray, List.set_cons_zero, List.set_cons_succ]
  refine hd_calls 6 119 #[.agg (cellsB sk).toArray, .int .u8 71, .int .u64 0] rfl rfl (by kernel_rfl) (by go_simp) ((HDE.out _).mono ?_)
  rintro e w3 ⟨rfl, hb⟩
  have b3 := bel_on b2 hb
  have y3 := y2.below' hb
  have hS3 := HR.out _ b3
  refine ⟨_, rfl, hS3, ?_⟩
  simp only [List.getElem_toArray, List.getElem_cons_succ, List.getElem_cons_zero, Act.put, List.setIfInBounds_toArray, List.set_cons_zero, List.set_cons_succ]
  refine hd_build4 9 29 (.int .i64 gg) (.int .i64 b) (.agg (cellsB dk).toArray) (.agg #[.slice A n1 ca, .slice Bd n2 cb]) pc.toArray _ _ _ _ rfl rfl rfl (by kernel_rfl) (by kernel_rfl) (by kernel_rfl) (fun _ _ _ h => h) rfl rfl rfl rfl HBU.out hS3 ?_
  simp only [List.getElem_toArray, List.getElem_cons_succ, List.getElem_cons_zero, Act.put, List.setIfInBounds_toArray, List.set_cons_zero, List.set_cons_succ]
  have b4 := below_setRow b3 (Nat.le_refl _) pc.toArray
  refine hd_store 10 W0.heap.size pc.toArray 29 _ _ rfl rfl rfl (by kernel_rfl) rfl rfl y3 (by rw [List.size_toArray]; exact infoS HL.out) (by rw [hzs, List.size_toArray, HL.out]) HAL.out (HR.out _ b4) ?_
  refine wpAnyH_done (by kernel_rfl) (NoPanic.normal ?_) _
  go_wp2_with fail
  exact bodyPost_ret (results_cell_row rfl _ _ W0.heap.size _ _ (0, 0) _ rfl (y3.setRow pc.toArray) Tryz.underlying29 rfl (by rw [List.size_toArray]; exact infoS HL.out)) rfl ⟨rfl, bel_on b0.out b4⟩

set_option maxHeartbeats 8000000 in
set_option maxRecDepth 1000000 in
theorem MembersOf_any (l : LevV) (i : Nat) (w : World) (h : LevOK w l) (hi : i ≤ 1000000) :
    Calls Tryz.prog 65 #[.agg l.cs.toArray, .int .i64 (i : Int)] w fun e w' => e = .returned (.agg (l.part (i + 1)).cs.toArray) ∧ Below w.heap.size w w' := by
  have hk := h.k16
  have HKK : Hid (l.k.length = 16) := hk
  obtain ⟨W0, hW0⟩ : ∃ W : World, W = w.alloc (.cells l.cs.toArray 60) := ⟨_, rfl⟩
  have b0 : Hid (Below w.heap.size w W0) := by unfold Hid; rw [hW0]; exact alloc_below _ _
  have x0 : Hid (Blk W0 w.heap.size 60 l.cs.toArray) := by unfold Hid; rw [hW0]; exact Blk.new w _ _
  obtain ⟨W1, hW1⟩ : ∃ W : World, W = W0.alloc (.cells zeroSt 29) := ⟨_, rfl⟩
  have b1 : Hid (Below W0.heap.size W0 W1) := by unfold Hid; rw [hW1]; exact alloc_bel _ _
  obtain ⟨zc, hzc⟩ : ∃ z, zeroSt = z := ⟨_, rfl⟩
  have hzs : zc.size = 20 := by rw [← hzc]; rfl
  have y1 : Hid (Blk W1 W0.heap.size 29 zc) := by unfold Hid; rw [hW1, ← hzc]; exact Blk.new _ _ _
  have HW0 := Lib.hid hW0
  have HW1 : Hid (W1 = W0.alloc (.cells #[.int .i64 0, .int .i64 0, .int .u8 0, .int .u8 0, .int .u8 0, .int .u8 0, .int .u8 0, .int .u8 0, .int .u8 0, .int .u8 0, .int .u8 0, .int .u8 0, .int .u8 0, .int .u8 0, .int .u8 0, .int .u8 0, .int .u8 0, .int .u8 0, .slice none 0 0, .slice none 0 0] 29)) := hW1
  have HR : Hid (∀ W, Below W0.heap.size W0 W → W.cell? ⟨w.heap.size, 0, none⟩ = some (.int .i64 l.g) ∧ W.cell? ⟨w.heap.size, 1, none⟩ = some (.int .i64 l.m) ∧ W.cell? ⟨w.heap.size, 2, none⟩ = some (.int .i64 l.b) ∧ W.rangeAt w.heap.size 3 (cellsB l.k) ∧ W.rangeAt w.heap.size 19 [.slice l.A l.x.length l.ca, .slice l.Bd l.y.length l.cb]) := fun W hW => LevV.cells hk (x0.out.below' hW)
  have HDE : Hid (∀ W, Calls Tryz.prog 119 #[.agg (cellsB l.k).toArray, .int .u8 71, .int .u64 ((i : Int) + 1)] W fun e w' => e = .returned (.agg (cellsB (derS l.k 71 (UInt64.ofNat (i + 1)))).toArray) ∧ Below W.heap.size W w') := fun W => by
    have := refDerive_any l.k 71 (UInt64.ofNat (i + 1)) W hk
    rwa [show ((UInt64.ofNat (i + 1)).toNat : Int) = ((i : Int) + 1) from by first | rfl | (rw [UInt64.toNat_ofNat']; omega)] at this
  have HDK : Hid ((derS l.k 71 (UInt64.ofNat (i + 1))).length = 16) := rfl
  have HF : Hid ((l.part (i + 1)).cs = .int .i64 l.m :: .int .i64 l.b :: (cellsB (derS l.k 71 (UInt64.ofNat (i + 1))) ++ [.slice l.A l.x.length l.ca, .slice l.Bd l.y.length l.cb])) := rfl
  have HBU : Hid (Tryz.prog.built 29 [(0, .int .i64 l.m), (1, .int .i64 l.b), (2, .agg (cellsB (derS l.k 71 (UInt64.ofNat (i + 1)))).toArray), (3, .agg #[.slice l.A l.x.length l.ca, .slice l.Bd l.y.length l.cb])] = some (l.part (i + 1)).cs.toArray) := by
    unfold Hid
    rw [HF.out]
    exact built_steps _ _ _ _ _ _ _ _ _ rfl
  have HL : Hid ((l.part (i + 1)).cs.length = 20) := StV.len rfl
  have HAL := Lib.hid (l.part (i + 1)).all
  generalize (l.part (i + 1)).cs = pc at HBU HL HAL ⊢
  generalize derS l.k 71 (UInt64.ofNat (i + 1)) = dk at HDE HDK HBU
  generalize l.k = sk at *
  generalize l.A = A at *
  generalize l.Bd = Bd at *
  generalize l.x.length = n1 at *
  generalize l.y.length = n2 at *
  generalize l.ca = ca at *
  generalize l.cb = cb at *
  generalize l.b = b at *
  generalize l.g = gg at *
  generalize l.m = mm at *
  generalize l.cs = cs at *
  have ei : IntKind.u64.wrap (i : Int) = (i : Int) := by rw [IntKind.wrap_u64]; omega
  have ei1 : IntKind.u64.wrap ((i : Int) + 1) = (i : Int) + 1 := by rw [IntKind.wrap_u64]; omega
  have mixed : Tryz.prog.follows Departure.mixedOrders = true := by kernel_rfl
  clear h hk hW0 hW1 hzc HF
  go_enter Tryz.func65, Tryz.ntmps65
  go_wp2_with (first | (rw [← HW0.out]) | (rw [← HW1.out]))
  obtain ⟨w2, hw2⟩ : ∃ W, W = W1.drew := ⟨_, rfl⟩
  have b2 : Below W0.heap.size W0 w2 := by rw [hw2]; exact b1.out.drew
  have y2 : Blk w2 W0.heap.size 29 zc := by rw [hw2]; exact y1.out.drew
  refine wp_region_noPanic ?_
  refine wp_region_held_drew (S := fun W => W.cell? ⟨w.heap.size, 0, none⟩ = some (.int .i64 gg) ∧ W.cell? ⟨w.heap.size, 1, none⟩ = some (.int .i64 mm) ∧ W.cell? ⟨w.heap.size, 2, none⟩ = some (.int .i64 b) ∧ W.rangeAt w.heap.size 3 (cellsB sk) ∧ W.rangeAt w.heap.size 19 [.slice A n1 ca, .slice Bd n2 cb]) (by kernel_rfl) (by rw [← hw2]; exact HR.out _ b2) (fun hS => ?_)
  rw [← hw2] at hS ⊢
  clear hw2
  refine hd_take 0 (.pointer (some ⟨w.heap.size, 1, none⟩)) rfl rfl (by kernel_rfl) (by kernel_rfl) (by kernel_rfl) (fun _ _ _ h => h) (fun w hw => by go_simp) hS ?_
  refine hd_take 2 (.pointer (some ⟨w.heap.size, 2, none⟩)) rfl rfl (by kernel_rfl) (by kernel_rfl) (by kernel_rfl) (fun _ _ _ h => h) (fun w hw => by go_simp) hS ?_
  refine hd_take 4 (.pointer (some ⟨w.heap.size, 3, none⟩)) rfl rfl (by kernel_rfl) (by kernel_rfl) (by kernel_rfl) (fun _ _ _ h => h) (fun w hw => by go_simp) hS ?_
  refine hd_take 6 (.int .i64 (i : Int)) rfl rfl (by kernel_rfl) (by kernel_rfl) (by kernel_rfl) (fun _ _ _ h => h) (fun w hw => by go_simp) hS ?_
  refine hd_take 10 (.pointer (some ⟨w.heap.size, 19, none⟩)) rfl rfl (by kernel_rfl) (by kernel_rfl) (by kernel_rfl) (fun _ _ _ h => h) (fun w hw => by go_simp) hS ?_
  simp only [List.getElem_toArray, List.getElem_cons_succ, List.getElem_cons_zero, Act.put, List.setIfInBounds_toArray, List.set_cons_zero, List.set_cons_succ]
  refine hd_take 1 (.int .i64 mm) rfl rfl (by kernel_rfl) (by kernel_rfl) (by kernel_rfl) (fun _ _ _ h => h) (fun w hw => by have hx := hw.2.1; simp [go_sem, hx]) hS ?_
  refine hd_take 3 (.int .i64 b) rfl rfl (by kernel_rfl) (by kernel_rfl) (by kernel_rfl) (fun _ _ _ h => h) (fun w hw => by have hx := hw.2.2.1; simp [go_sem, hx]) hS ?_
  refine hd_load 5 w.heap.size 3 (cellsB sk) 23 (.tmp 9) rfl rfl rfl (by kernel_rfl) (by kernel_rfl) (by kernel_rfl) (fun _ _ _ h => h) rfl (fun w hw => hw.2.2.2.1) under_key rfl (infoL16 (by rw [cellsB_length, HKK.out])) hS ?_
  refine hd_take 7 (.int .u64 (i : Int)) rfl rfl (by kernel_rfl) (by kernel_rfl) (by kernel_rfl) (fun _ _ _ h => h) (fun w hw => by simp [go_sem, ei]) hS ?_
  refine hd_load 11 w.heap.size 19 [.slice A n1 ca, .slice Bd n2 cb] 27 (.tmp 15) rfl rfl rfl (by kernel_rfl) (by kernel_rfl) (by kernel_rfl) (fun _ _ _ h => h) rfl (fun w hw => hw.2.2.2.2) Tryz.underlying27 rfl (by kernel_rfl) hS ?_
  simp only [List.getElem_toArray, List.getElem_cons_succ, List.getElem_cons_zero, Act.put, List.setIfInBounds_toArray, List.set_cons_zero, List.set_cons_succ]
  refine hd_take 8 (.int .u64 ((i : Int) + 1)) rfl rfl (by kernel_rfl) (by kernel_rfl) (by kernel_rfl) (fun _ _ _ h => h) (fun w hw => by simp [go_sem, ei1]) hS ?_
  simp only [List.getElem_toArray, List.getElem_cons_succ, List.getElem_cons_zero, Act.put, List.setIfInBounds_toArray, List.set_cons_zero, List.set_cons_succ]
  refine hd_calls 9 119 #[.agg (cellsB sk).toArray, .int .u8 71, .int .u64 ((i : Int) + 1)] rfl rfl (by kernel_rfl) (by go_simp) ((HDE.out _).mono ?_)
  rintro e w3 ⟨rfl, hb⟩
  have b3 := bel_on b2 hb
  have y3 := y2.below' hb
  have hS3 := HR.out _ b3
  refine ⟨_, rfl, hS3, ?_⟩
  simp only [List.getElem_toArray, List.getElem_cons_succ, List.getElem_cons_zero, Act.put, List.setIfInBounds_toArray, List.set_cons_zero, List.set_cons_succ]
  refine hd_build4 12 29 (.int .i64 mm) (.int .i64 b) (.agg (cellsB dk).toArray) (.agg #[.slice A n1 ca, .slice Bd n2 cb]) pc.toArray _ _ _ _ rfl rfl rfl (by kernel_rfl) (by kernel_rfl) (by kernel_rfl) (fun _ _ _ h => h) rfl rfl rfl rfl HBU.out hS3 ?_
  simp only [List.getElem_toArray, List.getElem_cons_succ, List.getElem_cons_zero, Act.put, List.setIfInBounds_toArray, List.set_cons_zero, List.set_cons_succ]
  have b4 := below_setRow b3 (Nat.le_refl _) pc.toArray
  refine hd_store 13 W0.heap.size pc.toArray 29 _ _ rfl rfl rfl (by kernel_rfl) rfl rfl y3 (by rw [List.size_toArray]; exact infoS HL.out) (by rw [hzs, List.size_toArray, HL.out]) HAL.out (HR.out _ b4) ?_
  refine wpAnyH_done (by kernel_rfl) (NoPanic.normal ?_) _
  go_wp2_with fail
  exact bodyPost_ret (results_cell_row rfl _ _ W0.heap.size _ _ (0, 0) _ rfl (y3.setRow pc.toArray) Tryz.underlying29 rfl (by rw [List.size_toArray]; exact infoS HL.out)) rfl ⟨rfl, bel_on b0.out b4⟩

theorem max_ck (a b : Bool) : max (ckSt a) (ckSt b) = ckSt (a && b) := by cases a <;> cases b <;> decide
set_option maxHeartbeats 8000000 in
set_option maxRecDepth 1000000 in
theorem CheckLevels_any (l : LevV) (w : World) (h : LevOK w l) :
    Calls Tryz.prog 37 #[.agg l.cs.toArray] w fun e w' => e = .returned (.int .i64 (ckSt l.ok)) ∧ Below w.heap.size w w' := by
  have hk := h.k16
  obtain ⟨W0, hW0⟩ : ∃ W : World, W = w.alloc (.cells l.cs.toArray 60) := ⟨_, rfl⟩
  have b0 : Hid (Below w.heap.size w W0) := by unfold Hid; rw [hW0]; exact alloc_below _ _
  have x0 : Hid (Blk W0 w.heap.size 60 l.cs.toArray) := by unfold Hid; rw [hW0]; exact Blk.new w _ _
  have HW0 := Lib.hid hW0
  have HRW : Hid (∀ W, Below W0.heap.size W0 W → W.rangeAt w.heap.size 0 l.cs) := fun W hW => (x0.out.below' hW).range
  have HP0 : Hid (∀ W, Below w.heap.size w W → Calls Tryz.prog 91 #[.agg l.cs.toArray, .int .i64 0] W fun e w' => e = .returned (.agg (l.part 0).cs.toArray) ∧ Below W.heap.size W w') := fun W hW => part_any l 0 W (h.below hW) (by omega)
  have HP1 : Hid (∀ W, Below w.heap.size w W → Calls Tryz.prog 91 #[.agg l.cs.toArray, .int .i64 1] W fun e w' => e = .returned (.agg (l.part 1).cs.toArray) ∧ Below W.heap.size W w') := fun W hW => part_any l 1 W (h.below hW) (by omega)
  have HC0 : Hid (∀ W, Below w.heap.size w W → Calls Tryz.prog 21 #[.agg (l.part 0).cs.toArray] W fun e w' => e = .returned (.int .i64 (ckSt (l.part 0).ok)) ∧ Below W.heap.size W w') := fun W hW => CheckSteps_any _ W ((h.part 0).below hW)
  have HC1 : Hid (∀ W, Below w.heap.size w W → Calls Tryz.prog 21 #[.agg (l.part 1).cs.toArray] W fun e w' => e = .returned (.int .i64 (ckSt (l.part 1).ok)) ∧ Below W.heap.size W w') := fun W hW => CheckSteps_any _ W ((h.part 1).below hW)
  have HMX : Hid (max (ckSt (l.part 0).ok) (ckSt (l.part 1).ok) = ckSt l.ok) := max_ck _ _
  have HL : Hid (l.cs.length = 21) := LevV.len hk
  have hc0 : ckSt (l.part 0).ok = 0 ∨ ckSt (l.part 0).ok = 70 := by cases (l.part 0).ok; exact .inr rfl; exact .inl rfl
  have hc1 : ckSt (l.part 1).ok = 0 ∨ ckSt (l.part 1).ok = 70 := by cases (l.part 1).ok; exact .inr rfl; exact .inl rfl
  generalize ckSt l.ok = r at HMX ⊢
  generalize ckSt (l.part 0).ok = r0 at *
  generalize ckSt (l.part 1).ok = r1 at *
  generalize (l.part 0).cs = p0 at *
  generalize (l.part 1).cs = p1 at *
  generalize l.cs = cs at *
  have mixed : Tryz.prog.follows Departure.mixedOrders = true := by kernel_rfl
  clear h hk hW0
  go_enter Tryz.func37, Tryz.ntmps37
  go_wp2_with (rw [← HW0.out])
  obtain ⟨v0, hv0⟩ : ∃ W, W = W0.drew := ⟨_, rfl⟩
  have b1 : Below W0.heap.size W0 v0 := by rw [hv0]; exact (Below.refl _ _).drew
  refine wp_region_noPanic ?_
  refine wp_region_held_drew (S := fun W => W.rangeAt w.heap.size 0 cs) (by kernel_rfl) (by rw [← hv0]; exact HRW.out _ b1) (fun hS => ?_)
  rw [← hv0] at hS ⊢
  clear hv0
  refine hd_load 0 w.heap.size 0 cs 60 (.tmp 1) rfl rfl rfl (by kernel_rfl) (by kernel_rfl) (by kernel_rfl) (fun _ _ _ h => h) rfl (fun w hw => hw) Tryz.underlying60 rfl (infoV' HL.out) hS ?_
  refine hd_load 3 w.heap.size 0 cs 60 (.tmp 1) rfl rfl rfl (by kernel_rfl) (by kernel_rfl) (by kernel_rfl) (fun _ _ _ h => h) rfl (fun w hw => hw) Tryz.underlying60 rfl (infoV' HL.out) hS ?_
  simp only [List.getElem_toArray, List.getElem_cons_succ, List.getElem_cons_zero, Act.put, List.setIfInBounds_toArray, List.set_cons_zero, List.set_cons_succ]
  refine hd_calls 1 91 #[.agg cs.toArray, .int .i64 0] rfl rfl (by kernel_rfl) (by go_simp) ((HP0.out _ (bel_on b0.out b1)).mono ?_)
  rintro e v1 ⟨rfl, hb⟩
  have b2 := bel_on b1 hb
  clear hb
  have hS1 := HRW.out _ b2
  refine ⟨_, rfl, hS1, ?_⟩
  simp only [List.getElem_toArray, List.getElem_cons_succ, List.getElem_cons_zero, Act.put, List.setIfInBounds_toArray, List.set_cons_zero, List.set_cons_succ]
  refine hd_calls 2 21 #[.agg p0.toArray] rfl rfl (by kernel_rfl) (by go_simp) ((HC0.out _ (bel_on b0.out b2)).mono ?_)
  rintro e v2 ⟨rfl, hb⟩
  have b3 := bel_on b2 hb
  clear hb
  have hS2 := HRW.out _ b3
  refine ⟨_, rfl, hS2, ?_⟩
  simp only [List.getElem_toArray, List.getElem_cons_succ, List.getElem_cons_zero, Act.put, List.setIfInBounds_toArray, List.set_cons_zero, List.set_cons_succ]
  refine hd_calls 4 91 #[.agg cs.toArray, .int .i64 1] rfl rfl (by kernel_rfl) (by go_simp) ((HP1.out _ (bel_on b0.out b3)).mono ?_)
  rintro e v3 ⟨rfl, hb⟩
  have b4 := bel_on b3 hb
  clear hb
  have hS3 := HRW.out _ b4
  refine ⟨_, rfl, hS3, ?_⟩
  simp only [List.getElem_toArray, List.getElem_cons_succ, List.getElem_cons_zero, Act.put, List.setIfInBounds_toArray, List.set_cons_zero, List.set_cons_succ]
  refine hd_calls 5 21 #[.agg p1.toArray] rfl rfl (by kernel_rfl) (by go_simp) ((HC1.out _ (bel_on b0.out b4)).mono ?_)
  rintro e v4 ⟨rfl, hb⟩
  have b5 := bel_on b4 hb
  clear hb
  have hS4 := HRW.out _ b5
  refine ⟨_, rfl, hS4, ?_⟩
  simp only [List.getElem_toArray, List.getElem_cons_succ, List.getElem_cons_zero, Act.put, List.setIfInBounds_toArray, List.set_cons_zero, List.set_cons_succ]
  refine hd_take 6 (.int .i64 r) rfl rfl (by kernel_rfl) (by kernel_rfl) (by kernel_rfl) (fun _ _ _ h => h) (fun w hw => by rw [← HMX.out]; rcases hc0 with rfl | rfl <;> rcases hc1 with rfl | rfl <;> go_simp) hS4 ?_
  simp only [List.getElem_toArray, List.getElem_cons_succ, List.getElem_cons_zero, Act.put, List.setIfInBounds_toArray, List.set_cons_zero, List.set_cons_succ]
  refine hd_take 7 (.int .i64 r) rfl rfl (by kernel_rfl) (by kernel_rfl) (by kernel_rfl) (fun _ _ _ h => h) (fun w hw => by go_simp) hS4 ?_
  refine wpAnyH_done (by kernel_rfl) (NoPanic.normal ?_) _
  simp only [List.getElem_toArray, List.getElem_cons_succ, List.getElem_cons_zero, Act.put, List.setIfInBounds_toArray, List.set_cons_zero, List.set_cons_succ]
  go_wp2_with fail
  go_ret
  exact ⟨rfl, bel_on b0.out b5⟩
end Go.Proofs.YtenpkmgbaajeeaaGreat

/- What the frames of the laws share: a code of two levels among the arguments, opened. -/
namespace Go.Proofs.YtenpkmgbaajeeaaGreat
open Go.ChangeShapes Go.WideShapes Go.ChangeAt Go.RowKit Go.Deep
set_option linter.unusedVariables false

theorem cells_levelsT : Tryz.prog.cellsOf 60 = 21 := by kernel_rfl
set_option maxRecDepth 100000 in
theorem levels_of_trod {H : Type} {enc : TypeId × Value → H} {W : World} {fuel : Nat} {cs : List Value} {x : DataW H × List MemPlace} (h : DataW.trod enc Tryz.prog W 0 (fun _ => true) true fuel 60 cs = some x)
    (hw : ∀ n ∈ x.1.weights Tryz.prog 60, n ≤ reachBytes) : ∃ s : LevV, cs = s.cs ∧ LevOK W s := by
  obtain ⟨xs, n, _, rfl, hl, hlen, hf⟩ := DataW.trod_struct Tryz.underlying60 h
  match xs, hlen with
  | [y0, y1, y2, y3, y4], _ =>
    have h0 := hf 0 _ rfl
    have h1 := hf 1 _ rfl
    have h2 := hf 2 _ rfl
    have h3 := hf 3 _ rfl
    have h4 := hf 4 _ rfl
    have hw' : ∀ n ∈ DataW.weightsEach Tryz.prog [3, 3, 3, 23, 27] [y0.1, y1.1, y2.1, y3.1, y4.1], n ≤ reachBytes := by simpa [DataW.weights, Tryz.underlying60] using hw
    change DataW.trod enc Tryz.prog W 0 (fun _ => true) true n 3 ((cs.drop 0).take (Tryz.prog.cellsOf 3)) = some y0 at h0
    change DataW.trod enc Tryz.prog W 0 (fun _ => true) true n 3 ((cs.drop 1).take (Tryz.prog.cellsOf 3)) = some y1 at h1
    change DataW.trod enc Tryz.prog W 0 (fun _ => true) true n 3 ((cs.drop 2).take (Tryz.prog.cellsOf 3)) = some y2 at h2
    change DataW.trod enc Tryz.prog W 0 (fun _ => true) true n 23 ((cs.drop 3).take (Tryz.prog.cellsOf 23)) = some y3 at h3
    change DataW.trod enc Tryz.prog W 0 (fun _ => true) true n 27 ((cs.drop 19).take (Tryz.prog.cellsOf 27)) = some y4 at h4
    rw [cells_int] at h0 h1 h2
    rw [cells_keyT] at h3
    rw [cells_fracT] at h4
    rw [cells_levelsT] at hl
    obtain ⟨g, e0, _⟩ := int_of_trod h0
    obtain ⟨m, e1, _⟩ := int_of_trod h1
    obtain ⟨b, e2, _⟩ := int_of_trod h2
    obtain ⟨k, hk, e3⟩ := key_of_trod h3
    obtain ⟨A, c, a, B, e, d, e4, hx, hy⟩ := frac_of_trod h4 (fun m hm => hw' m (DataW.weights_mem_each (j := 4) rfl rfl m hm))
    refine ⟨⟨g, m, b, k, A, c, a, B, e, d⟩, ?_, ⟨hk, hx, hy⟩⟩
    match cs, hl with
    | c0 :: c1 :: c2 :: r, hl =>
      simp at e0 e1 e2
      have hr : r.length = 18 := by simpa using hl
      have a2 : List.take 16 r = cellsB k := by simpa using e3
      have a3 : List.drop 16 r = [.slice A a.length c, .slice B d.length e] := by
        rw [← e4]
        have e5 : List.drop (1 + 1 + 1 + 16) (c0 :: c1 :: c2 :: r) = List.drop 16 r := rfl
        first
          | (rw [e5, List.take_of_length_le (by simp; omega)])
          | (simp only [List.drop_succ_cons, List.drop_zero, Nat.reduceAdd]; rw [List.take_of_length_le (by simp; omega)])
      rw [e0, e1, e2, ← List.take_append_drop 16 r, a2, a3]
      rfl
set_option maxRecDepth 100000 in
theorem open_levels {H : Type} {enc : TypeId × Value → H} {W : World} {b0 : Nat} {v : Value} {d : DataW H} {ps : List MemPlace} (hval : Value.okWide Tryz.prog W .any b0 60 v) (hd : DataW.Trod enc Tryz.prog W 0 (fun _ => true) true 60 v d ps)
    (hw : ∀ n ∈ d.weights Tryz.prog 60, n ≤ reachBytes) : ∃ s : LevV, v = .agg s.cs.toArray ∧ LevOK W s := by
  obtain ⟨cs, rfl, hsz⟩ := okWide_struct Tryz.underlying60 hval
  obtain ⟨fuel, hf⟩ := hd
  obtain ⟨s, e, h1⟩ := levels_of_trod hf hw
  refine ⟨s, ?_, h1⟩
  rw [← e]
  simp [Value.cells]
end Go.Proofs.YtenpkmgbaajeeaaGreat

/- Whether a code of steps is complete: the reference's, and both for any code. -/
namespace Go.Proofs.YtenpkmgbaajeeaaGreat
open Go.RowKit
set_option linter.unusedVariables false
set_option linter.unusedSimpArgs false

end Go.Proofs.YtenpkmgbaajeeaaGreat

/- The law CodeTails: the walk. -/
namespace Go.Proofs.YtenpkmgbaajeeaaGreat
open Go.RowKit
set_option linter.unusedVariables false
set_option linter.unusedSimpArgs false

theorem frac2_open_ {W w' : World} {e : Ending} {r : (List Nat × List Nat) × Int} (h : Frac2 W w' e r) : ∃ X x Z z, e = .returned (.tuple #[.agg #[.slice X r.1.1.length x, .slice Z r.1.2.length z], .int .i64 r.2]) ∧ NR w' X x r.1.1 ∧ NR w' Z z r.1.2 ∧ Below W.heap.size W w' := by
  obtain ⟨v, rfl, X, x, Z, z, rfl, h1, h2, _, hb⟩ := h
  exact ⟨X, x, Z, z, rfl, h1.nr_, h2.nr_, hb⟩
end Go.Proofs.YtenpkmgbaajeeaaGreat

/- The law CodeThreshold: the walk. -/
namespace Go.Proofs.YtenpkmgbaajeeaaGreat
open Go.RowKit
set_option linter.unusedVariables false
set_option linter.unusedSimpArgs false

theorem bin_sm {d : Nat} (h : d ≤ 64) : Sm (bin (2 * d) d) := sm_bin (by omega)
theorem bin_ne (d : Nat) : bin (2 * d) d ≠ 0 := by have := bin_pos (a := 2 * d) (b := d) (by omega); omega
theorem divs_sm {d k X : Nat} (hd : d ≤ 64) (hk : k ≤ 2 * d) (hX : X ≤ k + 1) : Sm (divsN d k X) := (bin_sm hd).mono (by have := divsN_sym hk hX; omega)
/-- The tail of the threshold is at most the limit, and that of the next number is above it. -/
theorem thr_tails {s : StV} (hok : s.ok = true) {d K : Nat} (hd : s.b = (d : Int)) (hK : K ≤ 2 * d) : ∃ X : Nat, s.th K + 1 = (X : Int) ∧ X + 1 ≤ K + 1 ∧ -1 ≤ s.th K ∧ s.th K < K ∧
    cmpFS (lowS (divsN d K X) (bin (2 * d) d)).1 (lowS (divsN d K X) (bin (2 * d) d)).2 s.x s.y = (cmpN (divsN d K X * val s.y) (val s.x * bin (2 * d) d), 0) ∧ cmpN (divsN d K X * val s.y) (val s.x * bin (2 * d) d) ≤ 0 ∧
    cmpFS (lowS (divsN d K (X + 1)) (bin (2 * d) d)).1 (lowS (divsN d K (X + 1)) (bin (2 * d) d)).2 s.x s.y = (cmpN (divsN d K (X + 1) * val s.y) (val s.x * bin (2 * d) d), 0) ∧ 0 < cmpN (divsN d K (X + 1) * val s.y) (val s.x * bin (2 * d) d) := by
  obtain ⟨⟨q1, q2, q3, q4⟩, hl⟩ := StV.parts hok
  obtain ⟨hv, h2, h3, h4⟩ := limB_iff.1 hl
  have e : s.th K = thS d K (val s.x) (val s.y) := by unfold StV.th; rw [hd, Int.toNat_natCast]
  have h5 := thS_ge d K (val s.x) (val s.y)
  have h6 := thS_lt hK h4
  have h7 := thS_over h6
  rw [e]
  obtain ⟨X, hX⟩ : ∃ X : Nat, thS d K (val s.x) (val s.y) + 1 = (X : Int) := ⟨(thS d K (val s.x) (val s.y) + 1).toNat, by omega⟩
  rw [show (thS d K (val s.x) (val s.y) + 2).toNat = X + 1 from by omega] at h7
  refine ⟨X, hX, by omega, h5, h6, low_cmp (bin_ne d) (divs_sm (by omega) hK (by omega)) (bin_sm (by omega)) hv, cmpN_le0.2 ?_, low_cmp (bin_ne d) (divs_sm (by omega) hK (by omega)) (bin_sm (by omega)) hv, cmpN_gt0.2 h7⟩
  cases X with
  | zero => simp [divsN, sumN]
  | succ X => exact thS_under (by omega)
end Go.Proofs.YtenpkmgbaajeeaaGreat

/- A lone pirate, in plain words. -/
namespace Go.Proofs.YtenpkmgbaajeeaaGreat
open Go.RowKit
set_option linter.unusedVariables false
set_option linter.unusedSimpArgs false

theorem StV.word_bit (s : StV) (x i : Nat) : bt (s.word x) i ≤ 1 := wordF_bit _ _ _ _ _
theorem namesF_none {P : Nat → Bool} : ∀ {n : Nat}, (∀ x, x < n → P x = false) → namesF P n = []
  | 0, _ => rfl
  | n + 1, h => by rw [namesF_no (h n (by omega)), namesF_none fun x hx => h x (by omega)]
theorem namesF_one {P : Nat → Bool} {u : Nat} (h1 : P u = true) : ∀ {n : Nat}, u < n → (∀ x, x < n → x ≠ u → P x = false) → namesF P n = [(u : Int)]
  | 0, h, _ => absurd h (by omega)
  | n + 1, h, h2 => by
    by_cases e : n = u
    · subst e
      rw [namesF_yes h1, namesF_none fun x hx => h2 x (by omega) (by omega)]; rfl
    · rw [namesF_no (h2 n (by omega) e)]
      exact namesF_one h1 (by omega) fun x hx => h2 x (by omega)
theorem lone_wts {s : StV} (hok : s.ok = true) {d m : Nat} (hd : s.b = (d : Int)) (hu : s.u = ((m + 1 : Nat) : Int)) (hn : s.n = m * d) (h1 : 1 ≤ d) (x : Nat) {b : Nat} (hb : b < m) : (s.wts (s.word x)).getD b 0 = if x ≤ b then d else 0 := by
  obtain ⟨hn1, hn2, -⟩ := StV.n_le hok
  have ha : ArrL s.at_ (m * d) := by rw [← hn]; exact s.arr (by omega)
  unfold StV.wts StV.word
  rw [hd, hu, Int.toNat_natCast, Int.toNat_natCast, Nat.add_sub_cancel, hn]
  exact word_weights ha (by omega) hb
theorem full_low {s : StV} (hok : s.ok = true) {d : Nat} (hd : s.b = (d : Int)) : s.th (2 * d) < d := by
  obtain ⟨⟨q1, q2, q3, q4⟩, hl⟩ := StV.parts hok
  obtain ⟨hv, h2, h3, h4⟩ := limB_iff.1 hl
  obtain ⟨X, hX, hX2, t1, t2, -, r2, -, -⟩ := thr_tails hok hd (show 2 * d ≤ 2 * d from Nat.le_refl _)
  apply Classical.byContradiction
  intro hno
  have hXd : d + 1 ≤ X := by omega
  have h5 : bin (2 * d) d ≤ divsN d (2 * d) X := by
    refine Nat.le_trans ?_ (sumN_mono _ hXd)
    rw [sumN_succ]
    have e : pick (2 * d) (2 * d - 2 * d) d d = bin (2 * d) d := by unfold pick; rw [if_pos (Nat.le_refl _), Nat.sub_self, Nat.sub_self, bin_zero, Nat.mul_one]
    rw [e]
    exact Nat.le_add_left _ _
  have h6 := cmpN_le0.1 r2
  have h7 : 0 < bin (2 * d) d := by have := bin_ne d; omega
  have h8 : bin (2 * d) d * val s.y ≤ val s.x * bin (2 * d) d := Nat.le_trans (Nat.mul_le_mul_right _ h5) h6
  rw [Nat.mul_comm (val s.x)] at h8
  have := Nat.le_of_mul_le_mul_left h8 h7
  omega
theorem lone_names {s : StV} (hok : s.ok = true) {d m : Nat} (hd : s.b = (d : Int)) (hu : s.u = ((m + 1 : Nat) : Int)) (hn : s.n = m * d) (h1 : 1 ≤ d) (hm : 1 ≤ m) {x : Nat} (hx : x ≤ m) (hth : 0 ≤ s.th d) : s.nms (s.word x) = [(x : Int)] := by
  obtain ⟨⟨q1, q2, q3, q4⟩, hl⟩ := StV.parts hok
  obtain ⟨hv, h2, h3, h4⟩ := limB_iff.1 hl
  have hw : ∀ b, b < m → (s.wts (s.word x)).getD b 0 = if x ≤ b then d else 0 := fun b hb => lone_wts hok hd hu hn h1 x hb
  have hfull := full_low hok hd
  have hzero : s.th 0 < 0 := by
    unfold StV.th
    exact thS_lt (by omega) h4
  unfold StV.th at hfull hzero hth
  rw [hd, Int.toNat_natCast] at hfull hzero hth
  unfold StV.nms StV.nmsW namesS
  rw [hu, hd, Int.toNat_natCast, Int.toNat_natCast]
  generalize s.wts (s.word x) = w at *
  have hP : ∀ y, y < m + 1 → namedB (m + 1) d (val s.x) (val s.y) w y = decide (y = x) := fun y hy => by
    unfold namedB
    by_cases e0 : y = 0
    · subst e0
      rw [if_pos rfl, hw 0 (by omega)]
      by_cases e : x = 0
      · subst e; simp; omega
      · rw [if_neg (by omega)]; simp; omega
    · rw [if_neg e0]
      by_cases e1 : y + 1 = m + 1
      · rw [if_pos e1, hw (y - 1) (by omega)]
        by_cases e : x ≤ y - 1
        · rw [if_pos e]; simp; omega
        · rw [if_neg e]; simp; omega
      · rw [if_neg e1, hw (y - 1) (by omega), hw y (by omega)]
        by_cases e : x ≤ y - 1
        · rw [if_pos e, if_pos (by omega), show d + d = 2 * d by omega, decide_eq_false (by omega), decide_eq_false (by omega)]
        · rw [if_neg e]
          by_cases e2 : x ≤ y
          · rw [if_pos e2, Nat.zero_add, decide_eq_true (by omega), decide_eq_true (by omega)]
          · rw [if_neg e2, Nat.zero_add, decide_eq_false (by omega), decide_eq_false (by omega)]
  exact namesF_one (by rw [hP x (by omega)]; simp) (by omega) fun y hy hne => by rw [hP y hy]; simp [hne]
end Go.Proofs.YtenpkmgbaajeeaaGreat

/- Copies brought to what a coalition's words have in common: in plain words. -/
namespace Go.Proofs.YtenpkmgbaajeeaaGreat
open Go.RowKit
set_option linter.unusedVariables false
set_option linter.unusedSimpArgs false

/-- Whether the first k words agree at a place with the first of them. -/
def agreeK (ws : List (List UInt8)) (i : Nat) : Nat → Bool
  | 0 => true
  | k + 1 => agreeK ws i k && decide (bt (ws.getD k []) i = bt (hd ws) i)
theorem agreeK_iff {ws : List (List UInt8)} {i : Nat} : ∀ {k : Nat}, agreeK ws i k = true ↔ ∀ j, j < k → bt (ws.getD j []) i = bt (hd ws) i
  | 0 => by simp [agreeK]
  | k + 1 => by
    rw [agreeK, Bool.and_eq_true, agreeK_iff, decide_eq_true_eq]
    constructor
    · rintro ⟨h1, h2⟩ j hj
      by_cases e : j = k
      · subst e; exact h2
      · exact h1 j (by omega)
    · exact fun h => ⟨fun j hj => h j (by omega), h k (by omega)⟩
/-- The copy, below i, brought to what the words have in common. -/
def bring (ws : List (List UInt8)) (y : List UInt8) (n i : Nat) : List UInt8 := (List.range n).map fun j => if j < i ∧ agreeK ws j ws.length = true then (hd ws).getD j 0 else y.getD j 0
theorem bring_len (ws : List (List UInt8)) (y : List UInt8) (n i : Nat) : (bring ws y n i).length = n := by simp [bring]
theorem bring_zero (ws : List (List UInt8)) {y : List UInt8} {n : Nat} (h : y.length = n) : bring ws y n 0 = y := by
  refine List.ext_getElem (by simp [bring, h]) fun j h1 h2 => ?_
  simp [bring, List.getD_eq_getElem?_getD, List.getElem?_eq_getElem h2]
theorem bring_get (ws : List (List UInt8)) (y : List UInt8) (n i j : Nat) (hj : j < n) : (bring ws y n i).getD j 0 = if j < i ∧ agreeK ws j ws.length = true then (hd ws).getD j 0 else y.getD j 0 := by
  unfold bring
  rw [List.getD_eq_getElem?_getD, List.getElem?_map, List.getElem?_range hj]
  rfl
theorem bring_set {ws : List (List UInt8)} (y : List UInt8) (n i : Nat) (hi : i < n) (h2 : agreeK ws i ws.length = true) : (bring ws y n i).set i ((hd ws).getD i 0) = bring ws y n (i + 1) := by
  refine List.ext_getElem (by simp [bring]) fun j h1 h2' => ?_
  simp only [bring, List.getElem_set, List.getElem_map, List.getElem_range]
  by_cases e : i = j
  · subst e; simp [h2]
  · rw [if_neg e]
    have : (j < i) ↔ (j < i + 1) := by omega
    simp [this]
theorem bring_keep {ws : List (List UInt8)} (y : List UInt8) (n i : Nat) (h2 : agreeK ws i ws.length = false) : bring ws y n i = bring ws y n (i + 1) := by
  refine List.map_congr_left fun j _ => ?_
  by_cases e : j = i
  · subst e; simp [h2]
  · have : (j < i) ↔ (j < i + 1) := by omega
    simp [this]
/-- The words of users. -/
def StV.wrds (s : StV) (xs : List Nat) : List (List UInt8) := xs.map s.word
theorem StV.wrds_len (s : StV) (xs : List Nat) : (s.wrds xs).length = xs.length := by simp [StV.wrds]
theorem StV.wrds_get (s : StV) {xs : List Nat} {j : Nat} (h : j < xs.length) : (s.wrds xs).getD j [] = s.word xs[j] := by
  simp [StV.wrds, List.getD_eq_getElem?_getD, List.getElem?_eq_getElem h]
theorem StV.wrds_hd (s : StV) {xs : List Nat} (h : 0 < xs.length) : hd (s.wrds xs) = s.word xs[0] := s.wrds_get h
/-- The members of a coalition below x. -/
def coal (C : Nat) : Nat → List Nat
  | 0 => []
  | x + 1 => if C.testBit x = true then coal C x ++ [x] else coal C x
theorem coal_len (C : Nat) : ∀ n, (coal C n).length ≤ n
  | 0 => Nat.le_refl _
  | n + 1 => by
    have := coal_len C n
    rw [coal]
    split
    · simp; omega
    · omega
end Go.Proofs.YtenpkmgbaajeeaaGreat

/- The law CodeComplete: the walk. -/
namespace Go.Proofs.YtenpkmgbaajeeaaGreat
open Go.RowKit
set_option linter.unusedVariables false
set_option linter.unusedSimpArgs false

theorem StV.nms_some {s : StV} (hok : s.ok = true) (y : List UInt8) (hc : s.cmp = true) : 0 < (s.nms y).length := by
  obtain ⟨⟨q1, q2, q3, q4⟩, -⟩ := StV.parts hok
  unfold StV.cmp at hc
  rw [Bool.not_eq_true'] at hc
  obtain ⟨u, hu, hn⟩ := complete_names (users := s.u.toNat) (w := s.wts y) (by omega) (fun b hb => StV.wts_le hok y b hb) hc
  have : (u : Int) ∈ s.nms y := namesF_mem.2 ⟨u, hu, hn, rfl⟩
  exact List.length_pos_of_mem this
end Go.Proofs.YtenpkmgbaajeeaaGreat

/- Append to bytes of the call's own, in a region that draws. -/
namespace Go.Proofs.YtenpkmgbaajeeaaGreat
open Go.RowKit
set_option linter.unusedVariables false
set_option linter.unusedSimpArgs false

section
variable {md : Region.Mode} {ops : Array Oper} {Q : Exit → Act → World → Prop} {S : World → Prop} {fuel : Nat} {listed : Array Bool} {a : Act} {w : World}
end

end Go.Proofs.YtenpkmgbaajeeaaGreat

/- Words of a code of two levels, both sides; the reference's check. -/
namespace Go.Proofs.YtenpkmgbaajeeaaGreat
open Go.RowKit
set_option linter.unusedVariables false
set_option linter.unusedSimpArgs false

set_option maxHeartbeats 4000000 in
set_option maxRecDepth 1000000 in
theorem refValidLevels_any (l : LevV) (w : World) (h : LevOK w l) :
    Calls Tryz.prog 64 #[.agg l.cs.toArray] w fun e w' => e = .returned (.bool l.ok) ∧ Below w.heap.size w w' := by
  have hk := h.k16
  obtain ⟨W0, hW0⟩ : ∃ W : World, W = w.alloc (.cells l.cs.toArray 60) := ⟨_, rfl⟩
  have b0 : Hid (Below w.heap.size w W0) := by unfold Hid; rw [hW0]; exact alloc_below _ _
  have x0 : Hid (Blk W0 w.heap.size 60 l.cs.toArray) := by unfold Hid; rw [hW0]; exact Blk.new w _ _
  have HW0 := Lib.hid hW0
  have HIN := Lib.hid (infoV (LevV.len hk))
  have HX : Hid (∀ W, Below W0.heap.size W0 W → Blk W w.heap.size 60 l.cs.toArray) := fun W hW => x0.out.below' hW
  have HC : Hid (∀ W, Below W0.heap.size W0 W → W.cell? ⟨w.heap.size, 0, none⟩ = some (.int .i64 l.g) ∧ W.cell? ⟨w.heap.size, 1, none⟩ = some (.int .i64 l.m) ∧ W.cell? ⟨w.heap.size, 2, none⟩ = some (.int .i64 l.b)) := fun W hW => by
    obtain ⟨c0, c1, c2, -, -⟩ := LevV.cells hk (x0.out.below' hW)
    exact ⟨c0, c1, c2⟩
  clear HC
  have HG : Hid (∀ W, Below w.heap.size w W → Calls Tryz.prog 92 #[.agg l.cs.toArray] W fun e w' => e = .returned (.agg (l.part 0).cs.toArray) ∧ Below W.heap.size W w') := fun W hW => GroupsOf_any l W (h.below hW)
  have HM : Hid (∀ W, Below w.heap.size w W → Calls Tryz.prog 65 #[.agg l.cs.toArray, .int .i64 0] W fun e w' => e = .returned (.agg (l.part 1).cs.toArray) ∧ Below W.heap.size W w') := fun W hW => MembersOf_any l 0 W (h.below hW) (by omega)
  have HV0 : Hid (∀ W, Below w.heap.size w W → Calls Tryz.prog 43 #[.agg (l.part 0).cs.toArray] W fun e w' => e = .returned (.bool (l.part 0).ok) ∧ Below W.heap.size W w') := fun W hW => refValidSteps_any _ W ((h.part 0).below hW)
  have HV1 : Hid (∀ W, Below w.heap.size w W → Calls Tryz.prog 43 #[.agg (l.part 1).cs.toArray] W fun e w' => e = .returned (.bool (l.part 1).ok) ∧ Below W.heap.size W w') := fun W hW => refValidSteps_any _ W ((h.part 1).below hW)
  have HR : Hid (l.ok = ((l.part 0).ok && (l.part 1).ok)) := rfl
  generalize l.ok = r at HR ⊢
  generalize (l.part 0).ok = r0 at *
  generalize (l.part 1).ok = r1 at *
  generalize (l.part 0).cs = p0 at *
  generalize (l.part 1).cs = p1 at *
  generalize l.cs = cs at *
  clear h hk hW0
  cases r0 with
  | false =>
    go_enter Tryz.func64, Tryz.ntmps64
    go_wp2_with (first
      | (rw [← HW0.out])
      | (refine wpList_load_row rfl 60 (.tmp 1) rfl (w.heap.size) rfl 60 cs.toArray (0, 0) _ x0.out Tryz.underlying60 rfl HIN.out ?_)
      | (go_at_call 92; (with_reducible refine (HG.out _ b0.out).mono ?_); rintro e w1 ⟨rfl, hb⟩; have D1 := Lib.hid (bel_on b0.out hb); clear hb)
      | (go_at_call 43; (with_reducible refine (HV0.out _ D1.out).mono ?_); rintro e w2 ⟨rfl, hb⟩; have D2 := Lib.hid (bel_on D1.out hb); clear hb))
    go_ret
    exact ⟨by rw [HR.out]; rfl, D2.out⟩
  | true =>
    go_enter Tryz.func64, Tryz.ntmps64
    go_wp2_with (first
      | (rw [← HW0.out])
      | (refine wpList_load_row rfl 60 (.tmp 1) rfl (w.heap.size) rfl 60 cs.toArray (0, 0) _ x0.out Tryz.underlying60 rfl HIN.out ?_)
      | (refine BigFrame.wpList_want (by kernel_rfl) fun K hK => wp_load_row 60 (.tmp 1) rfl w.heap.size rfl 60 cs.toArray (0, 0) _ x2.out Tryz.underlying60 rfl HIN.out (hK _ _ ?_))
      | (go_at_call 92; (with_reducible refine (HG.out _ b0.out).mono ?_); rintro e w1 ⟨rfl, hb⟩; have D1 := Lib.hid (bel_on b0.out hb); have x1 := Lib.hid (x0.out.below' hb); clear hb)
      | (go_at_call 43; (with_reducible refine (HV0.out _ D1.out).mono ?_); rintro e w2 ⟨rfl, hb⟩; have D2 := Lib.hid (bel_on D1.out hb); have x2 := Lib.hid (x1.out.below' hb); clear hb)
      | (go_at_call 65; (with_reducible refine (HM.out _ D2.out).mono ?_); rintro e w3 ⟨rfl, hb⟩; have D3 := Lib.hid (bel_on D2.out hb); clear hb)
      | (go_at_call 43; (with_reducible refine (HV1.out _ D3.out).mono ?_); rintro e w4 ⟨rfl, hb⟩; have D4 := Lib.hid (bel_on D3.out hb); clear hb))
    go_ret
    exact ⟨by rw [HR.out]; rfl, D4.out⟩
/-- A word of two levels and an error. -/
def LevV.wordR (l : LevV) (g m : Int) : List UInt8 × Int := if l.ok = false then ([], 70) else if g < 0 ∨ l.g ≤ g ∨ m < 0 ∨ l.m ≤ m then ([], 2) else ((l.part 0).word g.toNat ++ (l.part (g.toNat + 1)).word m.toNat, 0)
theorem LevV.bounds {l : LevV} (h : l.ok = true) : 2 ≤ l.g ∧ l.g ≤ 16 ∧ 2 ≤ l.m ∧ l.m ≤ 16 ∧ 1 ≤ l.b ∧ l.b ≤ 64 := by
  obtain ⟨⟨a1, a2, a3, a4⟩, _⟩ := StV.parts (LevV.ok_part h 0)
  obtain ⟨⟨b1, b2, _, _⟩, _⟩ := StV.parts (LevV.ok_part h 1)
  exact ⟨a1, a2, b1, b2, a3, a4⟩

end Go.Proofs.YtenpkmgbaajeeaaGreat

/- Lists of the accused: pairs of ints, read, owned, appended, compared. -/
namespace Go.Proofs.YtenpkmgbaajeeaaGreat
open Go.RowKit
set_option linter.unusedVariables false
set_option linter.unusedSimpArgs false

abbrev Ent := Int × Int
def cellsX (x : Ent) : List Value := [.int .i64 x.1, .int .i64 x.2]
def cellsE (es : List Ent) : List Value := es.flatMap cellsX
theorem cellsE_length : ∀ es : List Ent, (cellsE es).length = es.length * 2
  | [] => rfl
  | x :: es => by
    have := cellsE_length es
    unfold cellsE at this ⊢
    rw [List.flatMap_cons, List.length_append, this, List.length_cons]
    simp only [cellsX, List.length_cons, List.length_nil]
    omega
theorem cellsE_append (a b : List Ent) : cellsE (a ++ b) = cellsE a ++ cellsE b := by simp [cellsE]
theorem cells_oneE (es : List Ent) : ∀ v ∈ cellsE es, v.oneCell' = true := fun v hv => by
  obtain ⟨x, _, hv⟩ := List.mem_flatMap.1 hv
  rcases List.mem_cons.1 hv with rfl | hv
  · rfl
  · rw [List.mem_singleton.1 hv]; rfl
theorem cellsE_get : ∀ (es : List Ent) (i : Nat) (h : i < es.length), (cellsE es)[i * 2]? = some (.int .i64 es[i].1) ∧ (cellsE es)[i * 2 + 1]? = some (.int .i64 es[i].2)
  | [], i, h => absurd h (by simp)
  | x :: es, 0, _ => by constructor <;> rfl
  | x :: es, i + 1, h => by
    have := cellsE_get es i (by simpa using h)
    have e : cellsE (x :: es) = Value.int .i64 x.1 :: Value.int .i64 x.2 :: cellsE es := rfl
    rw [e, show (i + 1) * 2 = i * 2 + 1 + 1 from by omega, List.getElem?_cons_succ, List.getElem?_cons_succ]
    refine ⟨this.1, ?_⟩
    rw [List.getElem?_cons_succ, List.getElem?_cons_succ]
    exact this.2
/-- A slice that reads as entries. -/
def ER (w : World) (A : Option Addr) (c : Nat) (es : List Ent) : Prop := Rd w 2 A c es.length (cellsE es)
section
variable {w w' : World} {c : Nat} {A : Option Addr} {es : List Ent}
theorem ER.below (h : ER w A c es) (hb : Below w.heap.size w w') : ER w' A c es := Rd.below h hb
theorem ER.len (h : ER w A c es) : es.length ≤ 140737488351232 := Rd.len h
theorem ER.at_ (h : ER w A c es) {i : Nat} (hi : i < es.length) : ∃ b off, A = some ⟨b, off, none⟩ ∧ b < w.heap.size ∧ w.cell? ⟨b, off + i * 2, none⟩ = some (.int .i64 es[i].1) ∧ w.cell? ⟨b, off + i * 2 + 1, none⟩ = some (.int .i64 es[i].2) := by
  obtain ⟨b, off, e, hb, hc⟩ := h.2 (by omega)
  have hg := cellsE_get es i hi
  exact ⟨b, off, e, hb, hc _ _ hg.1, by have := hc _ _ hg.2; rwa [← Nat.add_assoc] at this⟩
end
/-- Entries that the call owns. -/
def OE (B : Nat) (w : World) (A : Option Addr) (c : Nat) (es : List Ent) : Prop := w.ownsRow B 108 2 (.slice A es.length c) es.length (cellsE es)
theorem OE.below {B : Nat} {w w' : World} {A : Option Addr} {c : Nat} {es : List Ent} (h : OE B w A c es) (hb : Below w.heap.size w w') : OE B w' A c es := ownsRow_below h hb
theorem OE.er {B : Nat} {w : World} {A : Option Addr} {c : Nat} {es : List Ent} (h : OE B w A c es) (hl : es.length ≤ 140737488351232) : ER w A c es := Rd.of_own h hl
theorem ent_info3 : (Tryz.prog.info? 108).map (fun i => (i.zero, i.size, i.bytes)) = some (some (.agg (cellsX (0, 0)).toArray), 2, 16) := by kernel_rfl
theorem OE.nil (B : Nat) (w : World) : OE B w none 0 [] := World.ownsRow_nil w B _ 2
theorem OE.le_ {B B' : Nat} {w : World} {A : Option Addr} {c : Nat} {es : List Ent} (h : OE B w A c es) (hB : B' ≤ B) : OE B' w A c es :=
  ⟨h.1, h.2.elim Or.inl (fun ⟨g, cap, cur, hv, hg, r⟩ => Or.inr ⟨g, cap, cur, hv, Nat.le_trans hB hg, r⟩)⟩
theorem OE.lit (B : Nat) (w : World) (l : List Ent) (hB : B ≤ w.heap.size) (hl : l.length ≤ 1000000) {n : Nat} (hn : l.length = n) : OE B (w.alloc (.cells (cellsE l).toArray 108)) (some ⟨w.heap.size, 0, none⟩) n l := by
  subst hn
  exact World.ownsRow_lit (e := 108) (size := 2) w (cellsE l).toArray l.length hB (by simp only [maxLen]; omega) (by rw [List.size_toArray, cellsE_length])
theorem ER.src {w : World} {A : Option Addr} {c : Nat} {l : List Ent} (h : ER w A c l) {n : Nat} (hn : l.length = n) : Src w 2 A n (cellsE l) := by subst hn; exact Rd.src h
theorem src_litE {w : World} (l : List Ent) {n : Nat} (hn : l.length = n) : Src (w.alloc (.cells (cellsE l).toArray 108)) 2 (some ⟨w.heap.size, 0, none⟩) n (cellsE l) := by
  subst hn
  refine ⟨cellsE_length l, .inr ⟨_, rfl, fun j u hu => ?_⟩⟩
  rw [Addr.add_lit, Nat.zero_add]
  simpa using hu

theorem wpList_append_ents (w : World) {ops : Array Oper} {rest : List Oper} {o : Oper} {a : Act} {Q : Exit → Act → World → Prop} (hgd : o.guard = none) (s x : Operand)
    (ho : o.op = .call { callee := .builtin .append, args := #[s, x], argTypes := #[65, 65] })
    (B : Nat) (A : Option Addr) (n c : Nat) (l : List Ent) (hn : l.length = n) (hs : a.eval s = .slice A n c) (hown : OE B w A c l)
    (X : Option Addr) (m d : Nat) (news : List Ent) (hm : news.length = m) (hx : a.eval x = .slice X m d) (hsrc : Src w 2 X m (cellsE news))
    (hlen : n + m ≤ 1000000) (hB : B ≤ w.heap.size)
    (h : ∀ A' c' w', OE B w' A' c' (l ++ news) → Below B w w' → w.grownBy w' (Value.ownBlock (.slice A n c)) → wpList Tryz.prog ops Q rest (a.put o.dst (.slice A' (n + m) c')) w') : wpList Tryz.prog ops Q (o :: rest) a w := by
  obtain ⟨i0, hi, hz0, hz1, hz2⟩ := info_parts ent_info3
  subst hn hm
  refine wpList_append_src w hgd s x 65 ho B 108 i0 (.agg (cellsX (0, 0)).toArray) 2 16 Tryz.underlying65 hi hz0 hz1 hz2 rfl (by omega) A l.length c (cellsE l) hs hown X news.length d (cellsE news) hx hsrc (cells_oneE _)
    (by simp only [maxLen]; omega) (by omega) hB ?_
  intro A' c' w' h1 h2 h3
  refine h A' c' w' ?_ (grown_below (Below.refl _ _) hown h2 hB (Nat.le_refl _)) h2
  unfold OE
  rw [cellsE_append, List.length_append]
  exact h1
end Go.Proofs.YtenpkmgbaajeeaaGreat

/- The accused of a code of two levels, in plain words; halves of a copy. -/
namespace Go.Proofs.YtenpkmgbaajeeaaGreat
open Go.RowKit
set_option linter.unusedVariables false
set_option linter.unusedSimpArgs false

/-- Where a cut 's[n:]' of bytes leads. -/
def dropP (A : Option Addr) (n c : Nat) : Option Addr := if c = n then A else A.map fun x => x.add n
theorem slice_bytes_from (W : World) (A : Option Addr) (m c n : Nat) (h : n ≤ m) :
    (Instr.slice 30 (.slice A m c) (some (.int .i64 (n : Int))) none none).run Tryz.prog W = .ok (.slice (dropP A n c) (m - n) (c - n)) W := by
  have e : Tryz.prog.elem 30 = 5 := by kernel_rfl
  rw [run_slice_l (P := Tryz.prog) (w := W) 30 A m c (by rw [e]; exact Tryz.underlying30) .i64 n (by omega) (by omega), e, Tryz.sizeOf5 W]
  simp [Result.andThen, sliced, dropP]
theorem BR.drop {w : World} {A : Option Addr} {c : Nat} {l : List UInt8} (h : BR w A c l) (n : Nat) (hn : n ≤ l.length) : BR w (dropP A n c) (c - n) (l.drop n) := by
  have h1 := Rd.le h
  have h2 := Rd.cap h
  have h3 := Rd.len h
  refine ⟨⟨by rw [cellsB_length, Nat.mul_one], by rw [List.length_drop]; omega, by omega, by rw [List.length_drop]; omega⟩, fun hne => ?_⟩
  rw [List.length_drop] at hne
  obtain ⟨b, off, e, hb, hc⟩ := h.2 (by omega)
  refine ⟨b, off + n, by rw [dropP, if_neg (by omega), e]; simp [Addr.add], hb, fun j v hv => ?_⟩
  rw [Nat.add_assoc]
  refine hc (n + j) v ?_
  rw [← hv]
  simp [cellsB, List.getElem?_drop]

theorem slice_bytes_to (W : World) (A : Option Addr) (m c n : Nat) (h : n ≤ c) :
    (Instr.slice 30 (.slice A m c) none (some (.int .i64 (n : Int))) none).run Tryz.prog W = .ok (.slice A n c) W := by
  have e : Tryz.prog.elem 30 = 5 := by kernel_rfl
  rw [run_slice_h (P := Tryz.prog) (w := W) 30 A m c (by rw [e]; exact Tryz.underlying30) .i64 n (by omega) (by omega), e, Tryz.sizeOf5 W]
  simp [Result.andThen, sliced]
  intro _
  cases A <;> simp [Addr.add]
theorem BR.take {w : World} {A : Option Addr} {c : Nat} {l : List UInt8} (h : BR w A c l) (n : Nat) (hn : n ≤ l.length) : BR w A c (l.take n) := by
  have hle := Rd.le h
  have hl := Rd.len h
  have hcp := Rd.cap h
  refine ⟨⟨by rw [cellsB_length, Nat.mul_one], by rw [List.length_take]; omega, hcp, by rw [List.length_take]; omega⟩, fun hne => ?_⟩
  rw [List.length_take] at hne
  obtain ⟨b, off, e, hb, hc⟩ := h.2 (by omega)
  refine ⟨b, off, e, hb, fun j v hv => hc j v ?_⟩
  simp only [cellsB, List.map_take, List.getElem?_take] at hv
  split at hv
  · exact hv
  · cases hv
theorem copy_take {y : List UInt8} {a b : Nat} (h : copyB y (a + b) = true) : copyB (y.take a) a = true := by
  unfold copyB symB at *
  simp only [Bool.and_eq_true, decide_eq_true_eq, List.all_eq_true] at *
  exact ⟨by rw [List.length_take]; omega, fun x hx => h.2 x (List.mem_of_mem_take hx)⟩
theorem copy_drop {y : List UInt8} {a b : Nat} (h : copyB y (a + b) = true) : copyB (y.drop a) b = true := by
  unfold copyB symB at *
  simp only [Bool.and_eq_true, decide_eq_true_eq, List.all_eq_true] at *
  exact ⟨by rw [List.length_drop]; omega, fun x hx => h.2 x (List.mem_of_mem_drop hx)⟩
/-- Nobody named: the member -1. -/
def usS (us : List Int) : List Int := if us = [] then [-1] else us
def LevV.half (l : LevV) : Nat := (l.part 0).n
def LevV.tot (l : LevV) : Nat := (l.part 0).n + (l.part 1).n
def LevV.grs (l : LevV) (y : List UInt8) : List Int := (l.part 0).nms (y.take l.half)
def LevV.mem (l : LevV) (y : List UInt8) (g : Int) : List Int := usS ((l.part (g.toNat + 1)).nms (y.drop l.half))
def prs (g : Int) (us : List Int) : List Ent := us.map fun u => (g, u)
def accF (gs : List Int) (f : Int → List Int) (k : Nat) : List Ent := (gs.take k).flatMap fun g => prs g (f g)
theorem accF_succ {gs : List Int} {f : Int → List Int} {k : Nat} (h : k < gs.length) : accF gs f (k + 1) = accF gs f k ++ prs (it gs k) (f (it gs k)) := by
  unfold accF
  rw [List.take_succ_eq_append_getElem h, List.flatMap_append, it_in h]
  simp
theorem accF_all (gs : List Int) (f : Int → List Int) {k : Nat} (h : gs.length ≤ k) : accF gs f k = gs.flatMap fun g => prs g (f g) := by unfold accF; rw [List.take_of_length_le h]
theorem accF_len (gs : List Int) (f : Int → List Int) (hf : ∀ g ∈ gs, (f g).length ≤ 16) : ∀ k, (accF gs f k).length ≤ 16 * k
  | 0 => by simp [accF]
  | k + 1 => by
    have ih := accF_len gs f hf k
    rcases Nat.lt_or_ge k gs.length with h | h
    · rw [accF_succ h, List.length_append]
      have := hf (it gs k) (by rw [it_in h]; exact List.getElem_mem h)
      simp [prs]; omega
    · have e : accF gs f (k + 1) = accF gs f k := by rw [accF_all gs f h, accF_all gs f (by omega)]
      rw [e]; omega
theorem prs_take {g : Int} {us : List Int} {k : Nat} (h : k < us.length) : prs g (us.take (k + 1)) = prs g (us.take k) ++ [(g, it us k)] := by
  unfold prs
  rw [List.take_succ_eq_append_getElem h, List.map_append, it_in h]
  rfl
def LevV.acc (l : LevV) (y : List UInt8) : List Ent := (l.grs y).flatMap fun g => prs g (l.mem y g)
def LevV.accR (l : LevV) (y : List UInt8) : List Ent × Int := if l.ok = false then ([], 70) else if copyB y l.tot = false then ([], 71) else (l.acc y, 0)
def PairsErr (r : List Ent × Int) (e : Ending) (w' : World) : Prop := ∃ A c, e = .returned (.tuple #[.slice A r.1.length c, .int .i64 r.2]) ∧ ER w' A c r.1
theorem pairsErr_nil (w : World) (x : Int) {r : List Ent × Int} (h : r = ([], x)) : PairsErr r (.returned (.tuple #[.slice none 0 0, .int .i64 x])) w := by
  subst h
  exact ⟨none, 0, rfl, (OE.nil 0 w).er (by simp)⟩
theorem usS_len {us : List Int} (h : us.length ≤ 16) : (usS us).length ≤ 16 := by unfold usS; split <;> simp_all
theorem LevV.grs_small {l : LevV} (hok : l.ok = true) (y : List UInt8) : (l.grs y).length ≤ 16 ∧ ∀ x ∈ l.grs y, 0 ≤ x ∧ x ≤ 16 := StV.nms_small (LevV.ok_part hok 0) _
theorem LevV.mem_small {l : LevV} (hok : l.ok = true) (y : List UInt8) (g : Int) : (l.mem y g).length ≤ 16 := usS_len (StV.nms_small (LevV.ok_part hok _) _).1
theorem LevV.tot_le {l : LevV} (hok : l.ok = true) : l.half ≤ 960 ∧ l.tot ≤ 1920 ∧ l.half ≤ l.tot ∧ ((l.half : Nat) : Int) = (l.g - 1) * l.b ∧ ((l.tot : Nat) : Int) = (l.g - 1) * l.b + (l.m - 1) * l.b := by
  obtain ⟨a1, a2, a3⟩ := StV.n_le (LevV.ok_part hok 0)
  obtain ⟨b1, b2, b3⟩ := StV.n_le (LevV.ok_part hok 1)
  have e0 : (l.part 0).u = l.g := rfl
  have e1 : (l.part 1).u = l.m := rfl
  have e2 : (l.part 0).b = l.b := rfl
  have e3 : (l.part 1).b = l.b := rfl
  rw [e0, e2] at a3
  rw [e1, e3] at b3
  unfold LevV.half LevV.tot
  exact ⟨a2, by omega, by omega, a3, by omega⟩
theorem LevV.part_n (l : LevV) (i : Nat) : (l.part (i + 1)).n = (l.part 1).n := by simp [StV.n, LevV.part]
theorem LevV.nmsR_groups {l : LevV} (hok : l.ok = true) {y : List UInt8} (hc : copyB y l.tot = true) : (l.part 0).nmsR (y.take l.half) = (l.grs y, 0) := by
  unfold StV.nmsR
  have h1 : copyB (y.take l.half) (l.part 0).n = true := copy_take (b := (l.part 1).n) hc
  rw [if_neg (by rw [LevV.ok_part hok 0]; simp), if_neg (by rw [h1]; simp)]
  rfl
theorem LevV.nmsR_members {l : LevV} (hok : l.ok = true) {y : List UInt8} (hc : copyB y l.tot = true) (i : Nat) : (l.part (i + 1)).nmsR (y.drop l.half) = ((l.part (i + 1)).nms (y.drop l.half), 0) := by
  unfold StV.nmsR
  have h1 : copyB (y.drop l.half) (l.part (i + 1)).n = true := by rw [l.part_n i]; exact copy_drop hc
  rw [if_neg (by rw [LevV.ok_part hok _]; simp), if_neg (by rw [h1]; simp)]
end Go.Proofs.YtenpkmgbaajeeaaGreat

/- The accused of a code of two levels: the program's. -/
namespace Go.Proofs.YtenpkmgbaajeeaaGreat
open Go.RowKit
set_option linter.unusedVariables false
set_option linter.unusedSimpArgs false

set_option maxHeartbeats 8000000 in
set_option maxRecDepth 1000000 in
theorem TraceLevels_any (l : LevV) (Y : Option Addr) (c : Nat) (y : List UInt8) (w : World) (h : LevOK w l) {n : Nat} (hy : y.length = n) (hY : BR w Y c y) :
    Calls Tryz.prog 39 #[.agg l.cs.toArray, .slice Y n c] w fun e w' => PairsErr (l.accR y) e w' ∧ Below w.heap.size w w' := by
  have hk := h.k16
  obtain ⟨W0, hW0⟩ : ∃ W : World, W = w.alloc (.cells l.cs.toArray 60) := ⟨_, rfl⟩
  have b0 : Hid (Below w.heap.size w W0) := by unfold Hid; rw [hW0]; exact alloc_below _ _
  have x0 : Hid (Blk W0 w.heap.size 60 l.cs.toArray) := by unfold Hid; rw [hW0]; exact Blk.new w _ _
  have HW0 := Lib.hid hW0
  have HIN := Lib.hid (infoV (LevV.len hk))
  have HX : Hid (∀ W, Below W0.heap.size W0 W → Blk W w.heap.size 60 l.cs.toArray) := fun W hW => x0.out.below' hW
  have HC : Hid (∀ W, Below W0.heap.size W0 W → W.cell? ⟨w.heap.size, 0, none⟩ = some (.int .i64 l.g) ∧ W.cell? ⟨w.heap.size, 1, none⟩ = some (.int .i64 l.m) ∧ W.cell? ⟨w.heap.size, 2, none⟩ = some (.int .i64 l.b)) := fun W hW => by
    obtain ⟨c0, c1, c2, -, -⟩ := LevV.cells hk (x0.out.below' hW)
    exact ⟨c0, c1, c2⟩
  have HCK : Hid (∀ W, Below w.heap.size w W → Calls Tryz.prog 37 #[.agg l.cs.toArray] W fun e w' => e = .returned (.int .i64 (ckSt l.ok)) ∧ Below W.heap.size W w') := fun W hW => CheckLevels_any l W (h.below hW)
  have hny : (n : Int) ≤ 140737488351232 := by have := hY.len; omega
  cases hok : l.ok with
  | false =>
    rw [hok, show ckSt false = 70 from rfl] at HCK
    have HR : Hid (l.accR y = ([], 70)) := by unfold Hid LevV.accR; rw [if_pos hok]
    generalize l.accR y = r at HR ⊢
    generalize l.cs = cs at *
    clear h hok hk hW0
    go_enter Tryz.func39, Tryz.ntmps39
    go_wp2_with (first
      | (rw [← HW0.out])
      | (refine wpList_load_row rfl 60 (.tmp 2) rfl (w.heap.size) rfl 60 cs.toArray (0, 0) _ x0.out Tryz.underlying60 rfl HIN.out ?_)
      | (go_at_call 37; (with_reducible refine (HCK.out _ b0.out).mono ?_); rintro e w1 ⟨rfl, hb⟩; have D1 := Lib.hid (bel_on b0.out hb); have G1 := Lib.hid hb; obtain ⟨c0, c1, c2⟩ := HC.out _ hb; clear hb))
    go_ret2
    exact ⟨pairsErr_nil _ _ HR.out, D1.out⟩
  | true =>
    rw [hok, show ckSt true = 0 from rfl] at HCK
    obtain ⟨q1, q2, q3, q4, q5, q6⟩ := LevV.bounds hok
    obtain ⟨t1, t2, t3, t4, t5⟩ := LevV.tot_le hok
    have HCP : Hid (∀ W, Below w.heap.size w W → Calls Tryz.prog 93 #[.slice Y n c, .int .i64 (l.tot : Int)] W fun e w' => e = .returned (.bool (copyB y l.tot)) ∧ Below W.heap.size W w') := fun W hW => isCopy_any Y c y l.tot W hy (hY.below hW) (by omega)
    obtain ⟨u1, hu1⟩ : ∃ u, l.g - 1 = u := ⟨_, rfl⟩
    obtain ⟨u2, hu2⟩ : ∃ u, l.m - 1 = u := ⟨_, rfl⟩
    rw [hu1] at t4
    rw [hu1, hu2] at t5
    have a1 : IntKind.i64.wrap (l.g - 1) = u1 := by rw [IntKind.wrap_i64]; omega
    have a2 : IntKind.i64.wrap (l.m - 1) = u2 := by rw [IntKind.wrap_i64]; omega
    have a3 : IntKind.i64.wrap (u1 * l.b) = (l.half : Int) := by rw [← t4, IntKind.wrap_i64]; omega
    have a3' : u1 * l.b = (l.half : Int) := t4.symm
    obtain ⟨u3, hu3⟩ : ∃ u, u2 * l.b = u := ⟨_, rfl⟩
    rw [hu3, ← t4] at t5
    have a4 : IntKind.i64.wrap u3 = u3 := by rw [IntKind.wrap_i64]; omega
    have a5 : IntKind.i64.wrap ((l.half : Int) + u3) = (l.tot : Int) := by rw [← t5, IntKind.wrap_i64]; omega
    have a5' : (l.half : Int) + u3 = (l.tot : Int) := t5.symm
    have a6 : IntKind.i64.wrap u1 = u1 := by rw [IntKind.wrap_i64]; omega
    have a7 : IntKind.i64.wrap u2 = u2 := by rw [IntKind.wrap_i64]; omega
    have a8 : IntKind.i64.wrap (l.half : Int) = (l.half : Int) := by rw [IntKind.wrap_i64]; omega
    have a9 : IntKind.i64.wrap (l.tot : Int) = (l.tot : Int) := by rw [IntKind.wrap_i64]; omega
    cases hc : copyB y l.tot with
    | false =>
      have HR : Hid (l.accR y = ([], 71)) := by unfold Hid LevV.accR; rw [if_neg (by rw [hok]; simp), if_pos hc]
      rw [hc] at HCP
      generalize l.accR y = r at HR ⊢
      generalize l.half = hf at *
      generalize l.tot = tt at *
      generalize l.g = G at *
      generalize l.m = M at *
      generalize l.b = bb at *
      generalize l.cs = cs at *
      clear h hok hk hW0 hc hu1 hu2 t4 t5
      go_enter Tryz.func39, Tryz.ntmps39
      go_wp2_with (first
        | (rw [← HW0.out])
        | (refine wpList_load_row rfl 60 (.tmp 2) rfl (w.heap.size) rfl 60 cs.toArray (0, 0) _ x0.out Tryz.underlying60 rfl HIN.out ?_)
        | (go_at_call 37; (with_reducible refine (HCK.out _ b0.out).mono ?_); rintro e w1 ⟨rfl, hb⟩; have D1 := Lib.hid (bel_on b0.out hb); have G1 := Lib.hid hb; obtain ⟨c0, c1, c2⟩ := HC.out _ hb; clear hb)
        | (go_at_call 93; (with_reducible refine (HCP.out _ D1.out).mono ?_); rintro e w2 ⟨rfl, hb⟩; have D2 := Lib.hid (bel_on D1.out hb); have G2 := Lib.hid (bel_on G1.out hb); clear hb))
      go_ret2
      exact ⟨pairsErr_nil _ _ HR.out, D2.out⟩
    | true =>
      have HR : Hid (l.accR y = (l.acc y, 0)) := by unfold Hid LevV.accR; rw [if_neg (by rw [hok]; simp), if_neg (by rw [hc]; simp)]
      rw [hc] at HCP
      have hyn : n = l.tot := by rw [← hy]; exact cp_nat hc
      have hnf : l.half ≤ n := by omega
      have hcf : l.half ≤ c := by have := Rd.le hY; omega
      have HP0 : Hid (∀ W, Below w.heap.size w W → Calls Tryz.prog 91 #[.agg l.cs.toArray, .int .i64 0] W fun e w' => e = .returned (.agg (l.part 0).cs.toArray) ∧ Below W.heap.size W w') := fun W hW => part_any l 0 W (h.below hW) (by omega)
      have HP1 : Hid (∀ gn : Nat, gn ≤ 16 → ∀ W, Below w.heap.size w W → Calls Tryz.prog 91 #[.agg l.cs.toArray, .int .i64 (1 + (gn : Int))] W fun e w' => e = .returned (.agg (l.part (gn + 1)).cs.toArray) ∧ Below W.heap.size W w') := fun gn hgn W hW => by
        have := part_any l (gn + 1) W (h.below hW) (by omega)
        rwa [show ((gn + 1 : Nat) : Int) = 1 + (gn : Int) from by omega] at this
      have HTG : Hid (∀ W, Below w.heap.size w W → Calls Tryz.prog 26 #[.agg (l.part 0).cs.toArray, .slice Y l.half c] W fun e w' => (∃ A c', e = .returned (.tuple #[.slice A (l.grs y).length c', .int .i64 0]) ∧ OI W.heap.size w' A c' (l.grs y)) ∧ Below W.heap.size W w') := fun W hW => by
        refine (TraceSteps_own (l.part 0) Y c (y.take l.half) W ((h.part 0).below hW) (by rw [List.length_take]; omega) ((hY.below hW).take _ (by omega))).mono ?_
        rintro e w' ⟨hE, hb⟩
        rw [LevV.nmsR_groups hok hc] at hE
        exact ⟨hE, hb⟩
      have HTM : Hid (∀ (gn : Nat) W, Below w.heap.size w W → Calls Tryz.prog 26 #[.agg (l.part (gn + 1)).cs.toArray, .slice (dropP Y l.half c) (n - l.half) (c - l.half)] W fun e w' => (∃ A c', e = .returned (.tuple #[.slice A ((l.part (gn + 1)).nms (y.drop l.half)).length c', .int .i64 0]) ∧ OI W.heap.size w' A c' ((l.part (gn + 1)).nms (y.drop l.half))) ∧ Below W.heap.size W w') := fun gn W hW => by
        refine (TraceSteps_own (l.part (gn + 1)) _ _ (y.drop l.half) W ((h.part (gn + 1)).below hW) (by rw [List.length_drop, hy]) ((hY.below hW).drop _ (by omega))).mono ?_
        rintro e w' ⟨hE, hb⟩
        rw [LevV.nmsR_members hok hc] at hE
        exact ⟨hE, hb⟩
      have HMS : Hid (∀ gn : Nat, ((l.part (gn + 1)).nms (y.drop l.half)).length ≤ 16) := fun gn => (StV.nms_small (LevV.ok_part hok _) _).1
      have HMM : Hid (∀ gn : Nat, l.mem y (gn : Int) = usS ((l.part (gn + 1)).nms (y.drop l.half))) := fun gn => by unfold LevV.mem; rw [Int.toNat_natCast]
      have HNB : Hid (∀ (gn : Nat), ∀ x ∈ (l.part (gn + 1)).nms (y.drop l.half), 0 ≤ x ∧ x ≤ 16) := fun gn => (StV.nms_small (LevV.ok_part hok _) _).2
      have HGI : Hid (∀ x ∈ l.grs y, 0 ≤ x ∧ x ≤ 16) := (LevV.grs_small hok y).2
      have HMB : Hid (∀ g, (l.mem y g).length ≤ 16) := fun g => LevV.mem_small hok y g
      obtain ⟨hgl, hgb⟩ := LevV.grs_small hok y
      have HGB : Hid (∀ i, i < (l.grs y).length → ∃ gn : Nat, it (l.grs y) i = (gn : Int) ∧ gn ≤ 16) := fun i hi => by
        have := hgb (it (l.grs y) i) (by rw [it_in hi]; exact List.getElem_mem hi)
        exact ⟨(it (l.grs y) i).toNat, by omega, by omega⟩
      have HAC : Hid (∀ k, (l.grs y).length ≤ k → accF (l.grs y) (l.mem y) k = l.acc y) := fun k hk => accF_all _ _ hk
      have HXR : Hid (∀ W, Below W0.heap.size W0 W → W.rangeAt w.heap.size 0 l.cs) := fun W hW => (x0.out.below' hW).range
      have HL21 : Hid (l.cs.length = 21) := LevV.len hk
      have mixed : Tryz.prog.follows Departure.mixedOrders = true := by kernel_rfl
      have HF : Hid (∀ r e w', r = (l.acc y, (0 : Int)) → (∃ A c', e = .returned (.tuple #[.slice A (l.acc y).length c', .int .i64 0]) ∧ ER w' A c' (l.acc y)) → PairsErr r e w') := fun r e w' hr ⟨A, c', he, hB⟩ => by
        subst hr
        exact ⟨A, c', he, hB⟩
      generalize l.accR y = r at HR ⊢
      generalize l.acc y = al at HR HAC HF
      generalize l.mem y = mf at HMM HMB HAC
      generalize l.grs y = gs at *
      generalize (l.part 0).cs = p0 at *
      obtain ⟨pf, hpf⟩ : ∃ f : Nat → List Value, f = fun gn => (l.part (gn + 1)).cs := ⟨_, rfl⟩
      obtain ⟨nf, hnf_⟩ : ∃ f : Nat → List Int, f = fun gn => (l.part (gn + 1)).nms (y.drop l.half) := ⟨_, rfl⟩
      have HP12 : Hid (∀ gn : Nat, gn ≤ 16 → ∀ W, Below w.heap.size w W → Calls Tryz.prog 91 #[.agg l.cs.toArray, .int .i64 (1 + (gn : Int))] W fun e w' => e = .returned (.agg (pf gn).toArray) ∧ Below W.heap.size W w') := by rw [hpf]; exact HP1
      have HTM2 : Hid (∀ (gn : Nat) W, Below w.heap.size w W → Calls Tryz.prog 26 #[.agg (pf gn).toArray, .slice (dropP Y l.half c) (n - l.half) (c - l.half)] W fun e w' => (∃ A c', e = .returned (.tuple #[.slice A (nf gn).length c', .int .i64 0]) ∧ OI W.heap.size w' A c' (nf gn)) ∧ Below W.heap.size W w') := by rw [hpf, hnf_]; exact HTM
      have HMS2 : Hid (∀ gn : Nat, (nf gn).length ≤ 16) := by rw [hnf_]; exact HMS
      have HMM2 : Hid (∀ gn : Nat, mf (gn : Int) = usS (nf gn)) := by rw [hnf_]; exact HMM
      have HNB2 : Hid (∀ (gn : Nat), ∀ x ∈ nf gn, 0 ≤ x ∧ x ≤ 16) := by rw [hnf_]; exact HNB
      clear HP1 HTM HMS HMM HNB hpf hnf_
      generalize l.half = hf at *
      generalize l.tot = tt at *
      generalize l.g = G at *
      generalize l.m = M at *
      generalize l.b = bb at *
      generalize l.cs = cs at *
      have hfi : (hf : Int) ≤ 960 := by omega
      obtain ⟨ng, hng⟩ : ∃ k, gs.length = k := ⟨_, rfl⟩
      have HNG := Lib.hid hng
      rw [hng] at HTG hgl HGB HAC
      have hgi : (ng : Int) ≤ 16 := by omega
      clear h hok hk hW0 hc hu1 hu2 t4 t5 hng hgb hyn
      go_enter Tryz.func39, Tryz.ntmps39
      go_wp2_with (first
        | (rw [← HW0.out])
        | (refine wpList_load_row rfl 60 (.tmp 2) rfl (w.heap.size) rfl 60 cs.toArray (0, 0) _ x0.out Tryz.underlying60 rfl HIN.out ?_)
        | (go_at_call 37; (with_reducible refine (HCK.out _ b0.out).mono ?_); rintro e w1 ⟨rfl, hb⟩; have D1 := Lib.hid (bel_on b0.out hb); have G1 := Lib.hid hb; obtain ⟨c0, c1, c2⟩ := HC.out _ hb; clear hb)
        | (go_at_call 93; (with_reducible refine (HCP.out _ D1.out).mono ?_); rintro e w2 ⟨rfl, hb⟩; have D2 := Lib.hid (bel_on D1.out hb); have G2 := Lib.hid (bel_on G1.out hb); clear hb))
      obtain ⟨v0, hv0⟩ : ∃ W, W = w2.drew := ⟨_, rfl⟩
      have g0 : Below W0.heap.size W0 v0 := by rw [hv0]; exact G2.out.drew
      refine wp_region_noPanic ?_
      refine wp_region_held_drew (S := fun W => W.rangeAt w.heap.size 0 cs) (by kernel_rfl) (by rw [← hv0]; exact HXR.out _ g0) (fun hS => ?_)
      rw [← hv0] at hS ⊢
      clear hv0
      refine hd_load 0 w.heap.size 0 cs 60 (.tmp 2) rfl rfl rfl (by kernel_rfl) (by kernel_rfl) (by kernel_rfl) (fun _ _ _ h => h) rfl (fun w hw => hw) Tryz.underlying60 rfl (infoV' HL21.out) hS ?_
      refine hd_take 2 (.slice Y n c) rfl rfl (by kernel_rfl) (by kernel_rfl) (by kernel_rfl) (fun _ _ _ h => h) (fun w hw => by go_simp) hS ?_
      refine hd_take 3 (.int .i64 (hf : Int)) rfl rfl (by kernel_rfl) (by kernel_rfl) (by kernel_rfl) (fun _ _ _ h => h) (fun w hw => by go_simp) hS ?_
      simp only [List.getElem_toArray, List.getElem_cons_succ, List.getElem_cons_zero, Act.put, List.setIfInBounds_toArray, List.set_cons_zero, List.set_cons_succ]
      refine hd_take 4 (.slice Y hf c) rfl rfl (by kernel_rfl) (by kernel_rfl) (by kernel_rfl) (fun _ _ _ h => h) (fun w hw => by have hx := slice_bytes_to w Y n c hf hcf; simp [go_sem, hx]) hS ?_
      simp only [List.getElem_toArray, List.getElem_cons_succ, List.getElem_cons_zero, Act.put, List.setIfInBounds_toArray, List.set_cons_zero, List.set_cons_succ]
      refine hd_calls 1 91 #[.agg cs.toArray, .int .i64 0] rfl rfl (by kernel_rfl) (by go_simp) ((HP0.out _ (bel_on b0.out g0)).mono ?_)
      rintro e v1 ⟨rfl, hb⟩
      have g1 := bel_on g0 hb
      clear hb
      have hS1 := HXR.out _ g1
      refine ⟨_, rfl, hS1, ?_⟩
      simp only [List.getElem_toArray, List.getElem_cons_succ, List.getElem_cons_zero, Act.put, List.setIfInBounds_toArray, List.set_cons_zero, List.set_cons_succ]
      refine hd_calls 5 26 #[.agg p0.toArray, .slice Y hf c] rfl rfl (by kernel_rfl) (by go_simp) ((HTG.out _ (bel_on b0.out g1)).mono ?_)
      rintro e v2 ⟨⟨GA, gc, rfl, hI⟩, hb⟩
      have g2 := bel_on g1 hb
      have IG := Lib.hid (hI.ir (by rw [HNG.out]; omega) (fun x hx => by have := HGI.out x hx; omega))
      clear hb hI
      have hS2 := HXR.out _ g2
      refine ⟨_, rfl, hS2, ?_⟩
      simp only [List.getElem_toArray, List.getElem_cons_succ, List.getElem_cons_zero, Act.put, List.setIfInBounds_toArray, List.set_cons_zero, List.set_cons_succ]
      refine hd_take 6 (.tuple #[.slice GA ng gc, .int .i64 0]) rfl rfl (by kernel_rfl) (by kernel_rfl) (by kernel_rfl) (fun _ _ _ h => h) (fun w hw => by go_simp) hS2 ?_
      simp only [List.getElem_toArray, List.getElem_cons_succ, List.getElem_cons_zero, Act.put, List.setIfInBounds_toArray, List.set_cons_zero, List.set_cons_succ]
      refine hd_take 7 (.slice GA ng gc) rfl rfl (by kernel_rfl) (by kernel_rfl) (by kernel_rfl) (fun _ _ _ h => h) (fun w hw => by go_simp) hS2 ?_
      refine hd_take 8 (.int .i64 0) rfl rfl (by kernel_rfl) (by kernel_rfl) (by kernel_rfl) (fun _ _ _ h => h) (fun w hw => by go_simp) hS2 ?_
      simp only [List.getElem_toArray, List.getElem_cons_succ, List.getElem_cons_zero, Act.put, List.setIfInBounds_toArray, List.set_cons_zero, List.set_cons_succ]
      refine hd_take 9 (.slice GA ng gc) rfl rfl (by kernel_rfl) (by kernel_rfl) (by kernel_rfl) (fun _ _ _ h => h) (fun w hw => by go_simp) hS2 ?_
      refine hd_take 10 (.int .i64 0) rfl rfl (by kernel_rfl) (by kernel_rfl) (by kernel_rfl) (fun _ _ _ h => h) (fun w hw => by go_simp) hS2 ?_
      refine wpAnyH_done (by kernel_rfl) (NoPanic.normal ?_) _
      simp only [List.getElem_toArray, List.getElem_cons_succ, List.getElem_cons_zero, Act.put, List.setIfInBounds_toArray, List.set_cons_zero, List.set_cons_succ]
      have G3 := Lib.hid g2
      clear g0 g1 g2 hS hS1 hS2
      go_wp2_with fail
      clear c0 c1 c2
      have HD3 : Hid (∀ W, Below v2.heap.size v2 W → Below W0.heap.size W0 W) := fun W hW => bel_on G3.out hW
      have HIG : Hid (∀ W, Below v2.heap.size v2 W → IR W GA gc gs) := fun W hW => IG.out.below hW
      go_loopw [8, 50] (fun vs vi wr => ∃ (i ln c' : Nat) (A : Option Addr), i ≤ ng ∧ vi = .int .i64 (i : Int) ∧ vs = .slice A ln c' ∧ Hid ((accF gs mf i).length = ln) ∧ Hid (OE v2.heap.size wr A c' (accF gs mf i)) ∧ Below v2.heap.size v2 wr) (fun _ vi _ => ng - (intOf vi).toNat)
      case atStart => exact ⟨0, 0, 0, none, by omega, rfl, rfl, rfl, OE.nil _ _, Below.refl _ _⟩
      case round =>
        obtain ⟨i, ln, c', A, hi, rfl, rfl, HL, HO, hbel⟩ := hrel
        by_cases hlt : i < ng
        · have hii : (i : Int) < ng := by omega
          have hi0 : (0 : Int) ≤ i := by omega
          obtain ⟨gn, hgn, hg16⟩ := HGB.out i hlt
          obtain ⟨pb, po, rfl, hpb, hpc⟩ := (HIG.out _ hbel).at_ (i := i) (by have := HNG.out; omega)
          have HSC : Hid (accF gs mf (i + 1) = accF gs mf i ++ prs (gn : Int) (usS (nf gn))) := by
            have := accF_succ (gs := gs) (f := mf) (k := i) (by have := HNG.out; omega)
            rw [hgn, HMM2.out] at this
            exact this
          have hln : ln ≤ 16 * i := by have := accF_len gs mf (fun g _ => HMB.out g) i; rwa [HL.out] at this
          have hln2 : ln ≤ 256 := by omega
          have HPg := Lib.hid (HP12.out gn hg16)
          have HTg := Lib.hid (HTM2.out gn)
          have hu16 := HMS2.out gn
          have HUB := Lib.hid (HNB2.out gn)
          have e1 : IntKind.i64.wrap (1 + (gn : Int)) = 1 + (gn : Int) := by rw [IntKind.wrap_i64]; omega
          rw [hgn] at hpc
          generalize pf gn = pc at HPg HTg
          generalize nf gn = us0 at HTg hu16 HUB HSC
          obtain ⟨n0, hn0⟩ : ∃ k, us0.length = k := ⟨_, rfl⟩
          have HN0 := Lib.hid hn0
          rw [hn0] at HTg hu16
          clear hn0 hgn hln
          go_wp2_with fail
          obtain ⟨s0, hs0⟩ : ∃ W, W = wr.drew := ⟨_, rfl⟩
          have k0 : Below v2.heap.size v2 s0 := by rw [hs0]; exact hbel.drew
          have OS : OE v2.heap.size s0 A c' (accF gs mf i) := by rw [hs0]; exact HO.out
          refine wp_region_noPanic ?_
          refine wp_region_held_drew (S := fun W => W.rangeAt w.heap.size 0 cs) (by kernel_rfl) (by rw [← hs0]; exact HXR.out _ (HD3.out _ k0)) (fun hS => ?_)
          rw [← hs0] at hS ⊢
          clear hs0
          refine hd_load 0 w.heap.size 0 cs 60 (.tmp 2) rfl rfl rfl (by kernel_rfl) (by kernel_rfl) (by kernel_rfl) (fun _ _ _ h => h) rfl (fun w hw => hw) Tryz.underlying60 rfl (infoV' HL21.out) hS ?_
          refine hd_take 1 (.int .i64 (gn : Int)) rfl rfl (by kernel_rfl) (by kernel_rfl) (by kernel_rfl) (fun _ _ _ h => h) (fun w hw => by go_simp) hS ?_
          refine hd_take 4 (.slice Y n c) rfl rfl (by kernel_rfl) (by kernel_rfl) (by kernel_rfl) (fun _ _ _ h => h) (fun w hw => by go_simp) hS ?_
          refine hd_take 5 (.int .i64 (hf : Int)) rfl rfl (by kernel_rfl) (by kernel_rfl) (by kernel_rfl) (fun _ _ _ h => h) (fun w hw => by go_simp) hS ?_
          simp only [List.getElem_toArray, List.getElem_cons_succ, List.getElem_cons_zero, Act.put, List.setIfInBounds_toArray, List.set_cons_zero, List.set_cons_succ]
          refine hd_take 2 (.int .i64 (1 + (gn : Int))) rfl rfl (by kernel_rfl) (by kernel_rfl) (by kernel_rfl) (fun _ _ _ h => h) (fun w hw => by simp [go_sem, e1]) hS ?_
          refine hd_take 6 (.slice (dropP Y hf c) (n - hf) (c - hf)) rfl rfl (by kernel_rfl) (by kernel_rfl) (by kernel_rfl) (fun _ _ _ h => h) (fun w hw => by have hx := slice_bytes_from w Y n c hf hnf; simp [go_sem, hx]) hS ?_
          simp only [List.getElem_toArray, List.getElem_cons_succ, List.getElem_cons_zero, Act.put, List.setIfInBounds_toArray, List.set_cons_zero, List.set_cons_succ]
          refine hd_calls 3 91 #[.agg cs.toArray, .int .i64 (1 + (gn : Int))] rfl rfl (by kernel_rfl) (by go_simp) ((HPg.out _ (bel_on b0.out (HD3.out _ k0))).mono ?_)
          rintro e v3 ⟨rfl, hb⟩
          have k1 := bel_on k0 hb
          have O3 := OS.below hb
          clear hb
          have hS1 := HXR.out _ (HD3.out _ k1)
          refine ⟨_, rfl, hS1, ?_⟩
          simp only [List.getElem_toArray, List.getElem_cons_succ, List.getElem_cons_zero, Act.put, List.setIfInBounds_toArray, List.set_cons_zero, List.set_cons_succ]
          refine hd_calls 7 26 #[.agg pc.toArray, .slice (dropP Y hf c) (n - hf) (c - hf)] rfl rfl (by kernel_rfl) (by go_simp) ((HTg.out _ (bel_on b0.out (HD3.out _ k1))).mono ?_)
          rintro e v4 ⟨⟨UA, uc, rfl, hI⟩, hb⟩
          have g4 := bel_on k1 hb
          have O4 := Lib.hid (O3.below hb)
          have U4 := Lib.hid hI
          clear hb hI
          have hS2 := HXR.out _ (HD3.out _ g4)
          refine ⟨_, rfl, hS2, ?_⟩
          simp only [List.getElem_toArray, List.getElem_cons_succ, List.getElem_cons_zero, Act.put, List.setIfInBounds_toArray, List.set_cons_zero, List.set_cons_succ]
          refine hd_take 8 (.tuple #[.slice UA n0 uc, .int .i64 0]) rfl rfl (by kernel_rfl) (by kernel_rfl) (by kernel_rfl) (fun _ _ _ h => h) (fun w hw => by go_simp) hS2 ?_
          simp only [List.getElem_toArray, List.getElem_cons_succ, List.getElem_cons_zero, Act.put, List.setIfInBounds_toArray, List.set_cons_zero, List.set_cons_succ]
          refine hd_take 9 (.slice UA n0 uc) rfl rfl (by kernel_rfl) (by kernel_rfl) (by kernel_rfl) (fun _ _ _ h => h) (fun w hw => by go_simp) hS2 ?_
          refine hd_take 10 (.int .i64 0) rfl rfl (by kernel_rfl) (by kernel_rfl) (by kernel_rfl) (fun _ _ _ h => h) (fun w hw => by go_simp) hS2 ?_
          simp only [List.getElem_toArray, List.getElem_cons_succ, List.getElem_cons_zero, Act.put, List.setIfInBounds_toArray, List.set_cons_zero, List.set_cons_succ]
          refine hd_take 11 (.slice UA n0 uc) rfl rfl (by kernel_rfl) (by kernel_rfl) (by kernel_rfl) (fun _ _ _ h => h) (fun w hw => by go_simp) hS2 ?_
          refine hd_take 12 (.int .i64 0) rfl rfl (by kernel_rfl) (by kernel_rfl) (by kernel_rfl) (fun _ _ _ h => h) (fun w hw => by go_simp) hS2 ?_
          refine wpAnyH_done (by kernel_rfl) (NoPanic.normal ?_) _
          simp only [List.getElem_toArray, List.getElem_cons_succ, List.getElem_cons_zero, Act.put, List.setIfInBounds_toArray, List.set_cons_zero, List.set_cons_succ]
          clear hS hS1 hS2 k0 k1 OS O3
          by_cases hz : n0 = 0
          · have HUS : Hid (usS us0 = [-1]) := by unfold Hid usS; rw [if_pos (List.eq_nil_of_length_eq_zero (by rw [HN0.out]; exact hz))]
            subst hz
            rw [HUS.out] at HSC
            obtain ⟨V, hV⟩ : ∃ W, W = v4.alloc (.cells #[.int .i64 (-1)] 3) := ⟨_, rfl⟩
            have HIU : Hid (OI v4.heap.size V (some ⟨v4.heap.size, 0, none⟩) 1 [-1]) := by unfold Hid; rw [hV]; exact OI.lit _ v4 [-1] (Nat.le_refl _) (by simp) rfl
            have hV2 : Below v2.heap.size v2 V := by rw [hV]; exact bel_on g4 (alloc_bel _ _)
            have HOV : Hid (OE v2.heap.size V A c' (accF gs mf i)) := by unfold Hid; rw [hV]; exact O4.out.below (alloc_bel _ _)
            have HUX : Hid (∀ x ∈ ([-1] : List Int), -1 ≤ x ∧ x ≤ 16) := by intro x hx; rw [List.mem_singleton.1 hx]; omega
            have HUL : Hid (([-1] : List Int).length = 1) := rfl
            go_wp2_with fail
            rw [← hV]
            clear hV
            obtain ⟨L, hL⟩ : ∃ L : Nat → List Ent, L = fun k => accF gs mf i ++ prs (gn : Int) ([-1].take k) := ⟨_, rfl⟩
            have HL0 : Hid (L 0 = accF gs mf i) := by unfold Hid; rw [hL]; simp [prs]
            have HLS : Hid (∀ k, k < 1 → L (k + 1) = L k ++ [((gn : Int), it [-1] k)]) := fun k hk => by rw [hL]; dsimp only; rw [prs_take (by rw [HUL.out]; exact hk), List.append_assoc]
            have HLE : Hid (L 1 = accF gs mf (i + 1)) := by unfold Hid; rw [hL, HSC.out]; dsimp only; rw [List.take_of_length_le (by rw [HUL.out]; exact Nat.le_refl _)]
            clear hL
            go_loopw [8, 71] (fun vs vi wr => ∃ (k lk ck : Nat) (Ak : Option Addr), k ≤ 1 ∧ vi = .int .i64 (k : Int) ∧ vs = .slice Ak lk ck ∧ Hid ((L k).length = lk) ∧ lk ≤ 256 + k ∧ Hid (OE v2.heap.size wr Ak ck (L k)) ∧ Hid (OI v4.heap.size wr (some ⟨v4.heap.size, 0, none⟩) 1 [-1]) ∧ Below v2.heap.size v2 wr) (fun _ vi _ => 1 - (intOf vi).toNat)
            case atStart => exact ⟨0, ln, c', A, by omega, rfl, rfl, by unfold Hid; rw [HL0.out]; exact HL.out, by omega, by unfold Hid; rw [HL0.out]; exact HOV.out, HIU.out, hV2⟩
            case round =>
              obtain ⟨k, lk, ck, Ak, hk_, rfl, rfl, HLk, hlk, HOk, HIk, hbk⟩ := hrel
              by_cases hlk2 : k < 1
              · have hki : (k : Int) < 1 := by omega
                have hk0 : (0 : Int) ≤ k := by omega
                have hUl := HUL.out
                obtain ⟨ub, uo, hue, _, huc⟩ := (HIk.out.ir (by omega) (fun x hx => by have := HUX.out x hx; omega)).at_ (i := k) (by omega)
                have HPT := Lib.hid (HLS.out k hlk2)
                have hub := HUX.out (it [-1] k) (by rw [it_in (by omega)]; exact List.getElem_mem _)
                obtain ⟨x, hx⟩ : ∃ x, it [-1] k = x := ⟨_, rfl⟩
                rw [hx] at huc HPT hub
                have HUE := Lib.hid hue
                clear hx hue hUl
                injection HUE.out with huu
                injection huu with h1 h2
                subst h1 h2
                rw [Nat.zero_add] at huc
                go_wp2_with (at_builtin; rw [show (#[.int .i64 (gn : Int), .int .i64 x] : Array Value) = (cellsE [((gn : Int), x)]).toArray from rfl]; refine wpList_append_ents _ rfl (.tmp 75) (.tmp 79) rfl v2.heap.size Ak lk ck _ HLk.out rfl (HOk.out.below (alloc_bel wr _)) (some ⟨wr.heap.size, 0, none⟩) 1 1 [((gn : Int), x)] rfl rfl (src_litE [((gn : Int), x)] rfl) (by omega) (by have := hbk.size; simp; omega) ?_; intro A7 c7 w7 ho7 hb7 hg7; have O7 := Lib.hid ho7; have D7 := Lib.hid ((bel_on hbk (alloc_bel wr _)).trans hb7); have I7 := Lib.hid (own_kept (HIk.out.below (alloc_bel wr _)) (HOk.out.below (alloc_bel wr _)) (by decide) (by rw [HLk.out]; exact hg7)); clear ho7 hb7 hg7)
                go_roundw
                case rel => exact ⟨k + 1, lk + 1, c7, A7, by omega, by go_num, rfl, by unfold Hid; rw [HPT.out, List.length_append, HLk.out]; rfl, by omega, by unfold Hid; rw [HPT.out]; exact O7.out, I7.out, D7.out⟩
                case measure => simp [intOf] <;> omega
              · obtain rfl : k = 1 := by omega
                have hx : ¬ ((1 : Int) < 1) := by omega
                rw [HLE.out] at HLk HOk
                go_wp2_with fail
                go_roundw
                case rel => exact ⟨i + 1, lk, ck, Ak, by omega, by go_num, rfl, HLk.out, HOk.out, hbk⟩
                case measure => simp [intOf] <;> omega
          · have HUS : Hid (usS us0 = us0) := by unfold Hid usS; rw [if_neg (fun h => hz (by rw [← HN0.out, h]; rfl))]
            have hz2 : ((n0 : Int) == 0) = false := by rw [beq_eq_false_iff_ne]; omega
            have hz3 : (n0 == 0) = false := by rw [beq_eq_false_iff_ne]; exact hz
            rw [HUS.out] at HSC
            obtain ⟨V, hV⟩ : ∃ W, W = v4 := ⟨_, rfl⟩
            rw [← hV] at U4 O4 g4 ⊢
            have HIU := U4
            have hV2 := g4
            have HOV := O4
            have HUX : Hid (∀ x ∈ us0, -1 ≤ x ∧ x ≤ 16) := fun x hx => by have := HUB.out x hx; omega
            have HUL := HN0
            clear hV
            go_wp2_with fail
            obtain ⟨L, hL⟩ : ∃ L : Nat → List Ent, L = fun k => accF gs mf i ++ prs (gn : Int) (us0.take k) := ⟨_, rfl⟩
            have HL0 : Hid (L 0 = accF gs mf i) := by unfold Hid; rw [hL]; simp [prs]
            have HLS : Hid (∀ k, k < n0 → L (k + 1) = L k ++ [((gn : Int), it us0 k)]) := fun k hk => by rw [hL]; dsimp only; rw [prs_take (by rw [HUL.out]; exact hk), List.append_assoc]
            have HLE : Hid (L n0 = accF gs mf (i + 1)) := by unfold Hid; rw [hL, HSC.out]; dsimp only; rw [List.take_of_length_le (by rw [HUL.out]; exact Nat.le_refl _)]
            clear hL
            go_loopw [8, 71] (fun vs vi wr => ∃ (k lk ck : Nat) (Ak : Option Addr), k ≤ n0 ∧ vi = .int .i64 (k : Int) ∧ vs = .slice Ak lk ck ∧ Hid ((L k).length = lk) ∧ lk ≤ 256 + k ∧ Hid (OE v2.heap.size wr Ak ck (L k)) ∧ Hid (OI v3.heap.size wr UA uc us0) ∧ Below v2.heap.size v2 wr) (fun _ vi _ => n0 - (intOf vi).toNat)
            case atStart => exact ⟨0, ln, c', A, by omega, rfl, rfl, by unfold Hid; rw [HL0.out]; exact HL.out, by omega, by unfold Hid; rw [HL0.out]; exact HOV.out, HIU.out, hV2⟩
            case round =>
              obtain ⟨k, lk, ck, Ak, hk_, rfl, rfl, HLk, hlk, HOk, HIk, hbk⟩ := hrel
              by_cases hlk2 : k < n0
              · have hki : (k : Int) < (n0 : Int) := by omega
                have hk0 : (0 : Int) ≤ k := by omega
                have hUl := HUL.out
                obtain ⟨ub, uo, hue, _, huc⟩ := (HIk.out.ir (by omega) (fun x hx => by have := HUX.out x hx; omega)).at_ (i := k) (by omega)
                have HPT := Lib.hid (HLS.out k hlk2)
                have hub := HUX.out (it us0 k) (by rw [it_in (by omega)]; exact List.getElem_mem _)
                obtain ⟨x, hx⟩ : ∃ x, it us0 k = x := ⟨_, rfl⟩
                rw [hx] at huc HPT hub
                have HUE := Lib.hid hue
                clear hx hue hUl
                obtain rfl := HUE.out
                go_wp2_with (at_builtin; rw [show (#[.int .i64 (gn : Int), .int .i64 x] : Array Value) = (cellsE [((gn : Int), x)]).toArray from rfl]; refine wpList_append_ents _ rfl (.tmp 75) (.tmp 79) rfl v2.heap.size Ak lk ck _ HLk.out rfl (HOk.out.below (alloc_bel wr _)) (some ⟨wr.heap.size, 0, none⟩) 1 1 [((gn : Int), x)] rfl rfl (src_litE [((gn : Int), x)] rfl) (by omega) (by have := hbk.size; simp; omega) ?_; intro A7 c7 w7 ho7 hb7 hg7; have O7 := Lib.hid ho7; have D7 := Lib.hid ((bel_on hbk (alloc_bel wr _)).trans hb7); have I7 := Lib.hid (own_kept (HIk.out.below (alloc_bel wr _)) (HOk.out.below (alloc_bel wr _)) (by decide) (by rw [HLk.out]; exact hg7)); clear ho7 hb7 hg7)
                go_roundw
                case rel => exact ⟨k + 1, lk + 1, c7, A7, by omega, by go_num, rfl, by unfold Hid; rw [HPT.out, List.length_append, HLk.out]; rfl, by omega, by unfold Hid; rw [HPT.out]; exact O7.out, I7.out, D7.out⟩
                case measure => simp [intOf] <;> omega
              · obtain rfl : k = n0 := by omega
                have hx : ¬ ((k : Int) < (k : Int)) := by omega
                rw [HLE.out] at HLk HOk
                go_wp2_with fail
                go_roundw
                case rel => exact ⟨i + 1, lk, ck, Ak, by omega, by go_num, rfl, HLk.out, HOk.out, hbk⟩
                case measure => simp [intOf] <;> omega
        · obtain rfl : i = ng := by omega
          have hx : ¬ ((i : Int) < i) := by omega
          have HE := Lib.hid (HAC.out i (Nat.le_refl _))
          rw [HE.out] at HL HO
          go_wp2_with fail
          go_ret2
          exact ⟨HF.out _ _ _ HR.out ⟨A, c', by rw [HL.out]; rfl, HO.out.er (by rw [HL.out]; have := accF_len gs mf (fun g _ => HMB.out g) i; rw [HE.out, HL.out] at this; omega)⟩, bel_on b0.out (HD3.out _ hbel)⟩
end Go.Proofs.YtenpkmgbaajeeaaGreat
