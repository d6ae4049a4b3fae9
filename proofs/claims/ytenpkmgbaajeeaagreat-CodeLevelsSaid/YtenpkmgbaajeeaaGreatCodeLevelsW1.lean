/-
  Lemmas and contracts, joined.
-/
import Derived.Lib.AppendZeros
import Derived.Lib.SliceRun
import Derived.Test.YtenpkmgbaajeeaaGreatCp2
import Derived.Test.YtenpkmgbaajeeaaGreatCf1
set_option linter.unusedSimpArgs false
set_option linter.unusedVariables false
set_option linter.unnecessarySimpa false
/- A code of two levels: its parts, both sides. -/
namespace Go.Proofs.YtenpkmgbaajeeaaGreat
open Go.RowKit
set_option linter.unusedVariables false
set_option linter.unusedSimpArgs false

theorem fill_app (place : Nat → Option (Nat × Nat)) (pre mid post vs : List Value) (i off size : Nat) (v : Value) (rest : List (Nat × Value)) (hp : place i = some (off, size)) (hv : v.cells = vs.toArray) (h1 : pre.length = off) (h2 : mid.length = size) (h3 : vs.length = size) :
    Instr.fill place (pre ++ (mid ++ post)).toArray ((i, v) :: rest) = Instr.fill place ((pre ++ vs) ++ post).toArray rest := by
  rw [fill_step place _ i off size v vs rest hp hv h3 (by simp; omega)]
  have e1 : (pre ++ (mid ++ post)).take off = pre := by rw [← h1]; exact List.take_left
  have e2 : (pre ++ (mid ++ post)).drop (off + size) = post := by
    rw [← h1, ← h2, ← List.append_assoc, ← List.length_append]; exact List.drop_left
  show Instr.fill place ((pre ++ (mid ++ post)).take off ++ (vs ++ (pre ++ (mid ++ post)).drop (off + size))).toArray rest = _
  rw [e1, e2, List.append_assoc]
theorem built_steps (u b : Int) (k : List UInt8) (A : Option Addr) (n c : Nat) (B : Option Addr) (m d : Nat) (hk : k.length = 16) :
    Tryz.prog.built 29 [(0, .int .i64 u), (1, .int .i64 b), (2, .agg (cellsB k).toArray), (3, .agg #[.slice A n c, .slice B m d])] = some (.int .i64 u :: .int .i64 b :: (cellsB k ++ [.slice A n c, .slice B m d])).toArray := by
  have r1 : (cellsB k).length = 16 := by rw [cellsB_length, hk]
  have e : Tryz.prog.built 29 [(0, .int .i64 u), (1, .int .i64 b), (2, .agg (cellsB k).toArray), (3, .agg #[.slice A n c, .slice B m d])] = Instr.fill ((#[(0, 1), (1, 1), (2, 16), (18, 2)] : Array (Nat × Nat))[·]?) (([] : List Value) ++ ([Value.int .i64 0] ++ ([Value.int .i64 0] ++ ((cellsB zeroK : List Value) ++ ([Value.slice none 0 0, Value.slice none 0 0] ++ []))))).toArray [(0, .int .i64 u), (1, .int .i64 b), (2, .agg (cellsB k).toArray), (3, .agg #[.slice A n c, .slice B m d])] := by kernel_rfl
  refine e.trans ?_
  refine (fill_app _ [] [.int .i64 0] _ [.int .i64 u] 0 0 1 _ _ rfl rfl rfl rfl rfl).trans ?_
  refine (fill_app _ _ [.int .i64 0] _ [.int .i64 b] 1 1 1 _ _ rfl rfl rfl rfl rfl).trans ?_
  refine (fill_app _ _ (cellsB zeroK) _ (cellsB k) 2 2 16 _ _ rfl rfl rfl rfl r1).trans ?_
  refine (fill_app _ _ [.slice none 0 0, .slice none 0 0] _ [.slice A n c, .slice B m d] 3 18 2 _ _ rfl rfl (by simp [r1]) rfl rfl).trans ?_
  rw [Instr.fill]
  refine congrArg (fun l => some (List.toArray l)) ?_
  simp
section
variable {P : Program} {md : Region.Mode} {ops : Array Oper} {Q : Exit → Act → World → Prop} {S : World → Prop} {fuel : Nat} {listed : Array Bool} {a : Act} {w : World}
theorem hd_build4 (i : Nat) {oi : Oper} (t : TypeId) (v0 v1 v2 v3 : Value) (cells : Array Value) (x0 x1 x2 x3 : Operand) (hi : ops[i]? = some oi) (ho : oi.op = .build t #[(0, x0), (1, x1), (2, x2), (3, x3)]) (hg : oi.guard = none)
    (hs : Region.noSelect ops = true) (hf : Region.free md ops listed i = true) (hr : (Region.ready md ops listed).contains i = true) (hQ : ∀ c a w, Q (.panic c) (a.put oi.dst (.agg cells)) w → Q (.panic c) a w)
    (h0 : a.eval x0 = v0) (h1 : a.eval x1 = v1) (h2 : a.eval x2 = v2) (h3 : a.eval x3 = v3) (hb : P.built t [(0, v0), (1, v1), (2, v2), (3, v3)] = some cells) (hw : S w)
    (h : wpAnyH P md ops Q S fuel (listed.setIfInBounds i true) (a.put oi.dst (.agg cells)) w) : wpAnyH P md ops Q S (fuel + 1) listed a w :=
  hd_build i t _ _ cells hi ho hg hs hf hr hQ (by simp [h0, h1, h2, h3]) hb hw h
end
/-- A code of two levels and where its limit lies. -/
structure LevV where
  g : Int
  m : Int
  b : Int
  k : List UInt8
  A : Option Addr
  ca : Nat
  x : List Nat
  Bd : Option Addr
  cb : Nat
  y : List Nat
def LevV.cs (s : LevV) : List Value := .int .i64 s.g :: .int .i64 s.m :: .int .i64 s.b :: (cellsB s.k ++ [.slice s.A s.x.length s.ca, .slice s.Bd s.y.length s.cb])
structure LevOK (w : World) (s : LevV) : Prop where
  k16 : s.k.length = 16
  hx : NR w s.A s.ca s.x
  hy : NR w s.Bd s.cb s.y
theorem LevOK.below {w w' : World} {s : LevV} (h : LevOK w s) (hb : Below w.heap.size w w') : LevOK w' s := ⟨h.k16, h.hx.below hb, h.hy.below hb⟩
theorem LevV.len {s : LevV} (h : s.k.length = 16) : s.cs.length = 21 := by simp [LevV.cs, cellsB_length, h]
theorem infoV {l : List Value} (h : l.length = 21) : (Tryz.prog.info? 60).map (·.size) = some l.toArray.size := by rw [List.size_toArray, h]; kernel_rfl
theorem infoV' {l : List Value} (h : l.length = 21) : (Tryz.prog.info? 60).map (·.size) = some l.length := by rw [h]; kernel_rfl
theorem LevV.cells {w : World} {g : Nat} {s : LevV} (hk : s.k.length = 16) (h : Blk w g 60 s.cs.toArray) :
    w.cell? ⟨g, 0, none⟩ = some (.int .i64 s.g) ∧ w.cell? ⟨g, 1, none⟩ = some (.int .i64 s.m) ∧ w.cell? ⟨g, 2, none⟩ = some (.int .i64 s.b) ∧ w.rangeAt g 3 (cellsB s.k) ∧ w.rangeAt g 19 [.slice s.A s.x.length s.ca, .slice s.Bd s.y.length s.cb] := by
  have e : (cellsB s.k).length = 16 := by rw [cellsB_length, hk]
  refine ⟨(h.cell 0).trans (by simp [LevV.cs]), (h.cell 1).trans (by simp [LevV.cs]), (h.cell 2).trans (by simp [LevV.cs]), fun j v hv => ?_, fun j v hv => ?_⟩
  · rw [h.cell, List.getElem?_toArray, LevV.cs, Nat.add_comm 3 j]
    simp only [List.getElem?_cons_succ]
    rw [List.getElem?_append_left (List.getElem?_eq_some_iff.1 hv).1]
    exact hv
  · rw [h.cell, List.getElem?_toArray, LevV.cs, show 19 + j = (16 + j) + 1 + 1 + 1 from by omega]
    simp only [List.getElem?_cons_succ]
    rw [List.getElem?_append_right (by omega), e, Nat.add_sub_cancel_left]
    exact hv
def zeroSt : Array Value := #[.int .i64 0, .int .i64 0, .int .u8 0, .int .u8 0, .int .u8 0, .int .u8 0, .int .u8 0, .int .u8 0, .int .u8 0, .int .u8 0, .int .u8 0, .int .u8 0, .int .u8 0, .int .u8 0, .int .u8 0, .int .u8 0, .int .u8 0, .int .u8 0, .slice none 0 0, .slice none 0 0]
def LevV.part (s : LevV) (i : Nat) : StV := ⟨if i = 0 then s.g else s.m, s.b, derS s.k 71 (UInt64.ofNat i), s.A, s.ca, s.x, s.Bd, s.cb, s.y⟩
theorem LevOK.part {w : World} {s : LevV} (h : LevOK w s) (i : Nat) : StOK w (s.part i) := ⟨rfl, h.hx, h.hy⟩
def LevV.ok (s : LevV) : Bool := (s.part 0).ok && (s.part 1).ok
theorem LevV.ok_part {s : LevV} (h : s.ok = true) (i : Nat) : (s.part i).ok = true := by
  unfold LevV.ok at h
  rw [Bool.and_eq_true] at h
  cases i with
  | zero => exact h.1
  | succ i =>
    have e : (s.part (i + 1)).ok = (s.part 1).ok := by simp [StV.ok, LevV.part]
    rw [e]
    exact h.2

set_option maxHeartbeats 8000000 in
set_option maxRecDepth 1000000 in
theorem part_any (l : LevV) (i : Nat) (w : World) (h : LevOK w l) (hi : i ≤ 1000000) :
    Calls Tryz.prog 91 #[.agg l.cs.toArray, .int .i64 (i : Int)] w fun e w' => e = .returned (.agg (l.part i).cs.toArray) ∧ Below w.heap.size w w' := by
  have hk := h.k16
  have HKK : Hid (l.k.length = 16) := hk
  obtain ⟨W0, hW0⟩ : ∃ W : World, W = w.alloc (.cells l.cs.toArray 60) := ⟨_, rfl⟩
  have b0 : Hid (Below w.heap.size w W0) := by unfold Hid; rw [hW0]; exact alloc_below _ _
  have x0 : Hid (Blk W0 w.heap.size 60 l.cs.toArray) := by unfold Hid; rw [hW0]; exact Blk.new w _ _
  obtain ⟨W1, hW1⟩ : ∃ W : World, W = W0.alloc (.cells zeroSt 29) := ⟨_, rfl⟩
  have b1 : Hid (Below W0.heap.size W0 W1) := by unfold Hid; rw [hW1]; exact alloc_bel _ _
  obtain ⟨zc, hzc⟩ : ∃ z, zeroSt = z := ⟨_, rfl⟩
  have hzs : zc.size = 20 := by rw [← hzc]; rfl
  have y1 : Hid (Blk W1 W0.heap.size 29 zc) := by unfold Hid; rw [hW1, ← hzc]; exact Blk.new _ _ _
  have HW0 := Lib.hid hW0
  have HW1 : Hid (W1 = W0.alloc (.cells #[.int .i64 0, .int .i64 0, .int .u8 0, .int .u8 0, .int .u8 0, .int .u8 0, .int .u8 0, .int .u8 0, .int .u8 0, .int .u8 0, .int .u8 0, .int .u8 0, .int .u8 0, .int .u8 0, .int .u8 0, .int .u8 0, .int .u8 0, .int .u8 0, .slice none 0 0, .slice none 0 0] 29)) := hW1
  have HR : Hid (∀ W, Below W0.heap.size W0 W → W.cell? ⟨w.heap.size, 0, none⟩ = some (.int .i64 l.g) ∧ W.cell? ⟨w.heap.size, 1, none⟩ = some (.int .i64 l.m) ∧ W.cell? ⟨w.heap.size, 2, none⟩ = some (.int .i64 l.b) ∧ W.rangeAt w.heap.size 3 (cellsB l.k) ∧ W.rangeAt w.heap.size 19 [.slice l.A l.x.length l.ca, .slice l.Bd l.y.length l.cb]) := fun W hW => LevV.cells hk (x0.out.below' hW)
  have HDE : Hid (∀ W, Calls Tryz.prog 120 #[.agg (cellsB l.k).toArray, .int .u8 71, .int .u64 (i : Int)] W fun e w' => e = .returned (.agg (cellsB (derS l.k 71 (UInt64.ofNat i))).toArray) ∧ Below W.heap.size W w') := fun W => by
    have := Derive_any l.k 71 (UInt64.ofNat i) W hk
    rwa [show ((UInt64.ofNat i).toNat : Int) = (i : Int) from by rw [UInt64.toNat_ofNat']; omega] at this
  have HDK : Hid ((derS l.k 71 (UInt64.ofNat i)).length = 16) := rfl
  obtain ⟨u, hu⟩ : ∃ u, (if i = 0 then l.g else l.m) = u := ⟨_, rfl⟩
  have HU0 : Hid (i = 0 → u = l.g) := fun h => by rw [← hu, if_pos h]
  have HU1 : Hid (i ≠ 0 → u = l.m) := fun h => by rw [← hu, if_neg h]
  have HF : Hid ((l.part i).cs = .int .i64 u :: .int .i64 l.b :: (cellsB (derS l.k 71 (UInt64.ofNat i)) ++ [.slice l.A l.x.length l.ca, .slice l.Bd l.y.length l.cb])) := by unfold Hid; rw [← hu]; rfl
  have HBU : Hid (Tryz.prog.built 29 [(0, .int .i64 u), (1, .int .i64 l.b), (2, .agg (cellsB (derS l.k 71 (UInt64.ofNat i))).toArray), (3, .agg #[.slice l.A l.x.length l.ca, .slice l.Bd l.y.length l.cb])] = some (l.part i).cs.toArray) := by
    unfold Hid
    rw [HF.out]
    exact built_steps _ _ _ _ _ _ _ _ _ rfl
  have HL : Hid ((l.part i).cs.length = 20) := StV.len rfl
  have HAL := Lib.hid (l.part i).all
  generalize (l.part i).cs = pc at HBU HL HAL ⊢
  generalize derS l.k 71 (UInt64.ofNat i) = dk at HDE HDK HBU
  generalize l.k = sk at *
  generalize l.A = A at *
  generalize l.Bd = Bd at *
  generalize l.x.length = n1 at *
  generalize l.y.length = n2 at *
  generalize l.ca = ca at *
  generalize l.cb = cb at *
  generalize l.b = b at *
  generalize l.g = gg at *
  generalize l.m = mm at *
  generalize l.cs = cs at *
  have ei : IntKind.u64.wrap (i : Int) = (i : Int) := by rw [IntKind.wrap_u64]; omega
  have ei0 : IntKind.u64.wrap 0 = 0 := by decide
  have mixed : Tryz.prog.follows Departure.mixedOrders = true := by kernel_rfl
  clear h hk hW0 hW1 hzc hu HF
  have HRW : Hid (∀ W, Below W0.heap.size W0 W → W.cell? ⟨w.heap.size, 2, none⟩ = some (.int .i64 b) ∧ W.rangeAt w.heap.size 3 (cellsB sk) ∧ W.rangeAt w.heap.size 19 [.slice A n1 ca, .slice Bd n2 cb]) := fun W hW => (HR.out W hW).2.2
  have HV : Hid (∀ v V, v = u → Below W0.heap.size W0 V → Blk V W0.heap.size 29 zc → True) := fun _ _ _ _ _ => trivial
  obtain ⟨c0, c1, -, -, -⟩ := HR.out _ b1.out
  by_cases hz : i = 0
  · have hu := HU0.out hz
    subst hu
    have hz2 : (i : Int) = 0 := by omega
    clear HU0 HU1 HV
    subst hz
    go_enter Tryz.func91, Tryz.ntmps91
    go_wp2_with (first | (rw [← HW0.out]) | (rw [← HW1.out]))
    obtain ⟨w2, hw2⟩ : ∃ W, W = W1.drew := ⟨_, rfl⟩
    have b2 : Below W0.heap.size W0 w2 := by rw [hw2]; exact b1.out.drew
    have y2 : Blk w2 W0.heap.size 29 zc := by rw [hw2]; exact y1.out.drew
    refine wp_region_noPanic ?_
    refine wp_region_held_drew (S := fun W => W.cell? ⟨w.heap.size, 2, none⟩ = some (.int .i64 b) ∧ W.rangeAt w.heap.size 3 (cellsB sk) ∧ W.rangeAt w.heap.size 19 [.slice A n1 ca, .slice Bd n2 cb]) (by kernel_rfl) (by rw [← hw2]; exact HRW.out _ b2) (fun hS => ?_)
    rw [← hw2] at hS ⊢
    clear hw2
    refine hd_take 0 (.int .i64 u) rfl rfl (by kernel_rfl) (by kernel_rfl) (by kernel_rfl) (fun _ _ _ h => h) (fun w hw => by go_simp) hS ?_
    refine hd_take 1 (.pointer (some ⟨w.heap.size, 2, none⟩)) rfl rfl (by kernel_rfl) (by kernel_rfl) (by kernel_rfl) (fun _ _ _ h => h) (fun w hw => by go_simp) hS ?_
    refine hd_take 3 (.pointer (some ⟨w.heap.size, 3, none⟩)) rfl rfl (by kernel_rfl) (by kernel_rfl) (by kernel_rfl) (fun _ _ _ h => h) (fun w hw => by go_simp) hS ?_
    refine hd_take 5 (.int .i64 0) rfl rfl (by kernel_rfl) (by kernel_rfl) (by kernel_rfl) (fun _ _ _ h => h) (fun w hw => by go_simp) hS ?_
    refine hd_take 8 (.pointer (some ⟨w.heap.size, 19, none⟩)) rfl rfl (by kernel_rfl) (by kernel_rfl) (by kernel_rfl) (fun _ _ _ h => h) (fun w hw => by go_simp) hS ?_
    simp only [List.getElem_toArray, List.getElem_cons_succ, List.getElem_cons_zero, Act.put, List.setIfInBounds_toArray, List.set_cons_zero, List.set_cons_succ]
    refine hd_take 2 (.int .i64 b) rfl rfl (by kernel_rfl) (by kernel_rfl) (by kernel_rfl) (fun _ _ _ h => h) (fun w hw => by have hx := hw.1; simp [go_sem, hx]) hS ?_
    refine hd_load 4 w.heap.size 3 (cellsB sk) 23 (.tmp 15) rfl rfl rfl (by kernel_rfl) (by kernel_rfl) (by kernel_rfl) (fun _ _ _ h => h) rfl (fun w hw => hw.2.1) under_key rfl (infoL16 (by rw [cellsB_length, HKK.out])) hS ?_
    refine hd_take 6 (.int .u64 0) rfl rfl (by kernel_rfl) (by kernel_rfl) (by kernel_rfl) (fun _ _ _ h => h) (fun w hw => by simp [go_sem, ei, ei0]) hS ?_
    refine hd_load 9 w.heap.size 19 [.slice A n1 ca, .slice Bd n2 cb] 27 (.tmp 20) rfl rfl rfl (by kernel_rfl) (by kernel_rfl) (by kernel_rfl) (fun _ _ _ h => h) rfl (fun w hw => hw.2.2) Tryz.underlying27 rfl (by kernel_rfl) hS ?_
    simp only [List.getElem_toArray, List.getElem_cons_succ, List.getElem_cons_zero, Act.put, List.setIfInBounds_toArray, List.set_cons_zero, List.set_cons_succ]
    refine hd_calls 7 120 #[.agg (cellsB sk).toArray, .int .u8 71, .int .u64 0] rfl rfl (by kernel_rfl) (by go_simp) ((HDE.out _).mono ?_)
    rintro e w3 ⟨rfl, hb⟩
    have b3 := bel_on b2 hb
    have y3 := y2.below' hb
    have hS3 := HRW.out _ b3
    refine ⟨_, rfl, hS3, ?_⟩
    simp only [List.getElem_toArray, List.getElem_cons_succ, List.getElem_cons_zero, Act.put, List.setIfInBounds_toArray, List.set_cons_zero, List.set_cons_succ]
    refine hd_build4 10 29 _ (.int .i64 b) (.agg (cellsB dk).toArray) (.agg #[.slice A n1 ca, .slice Bd n2 cb]) pc.toArray _ _ _ _ rfl rfl rfl (by kernel_rfl) (by kernel_rfl) (by kernel_rfl) (fun _ _ _ h => h) rfl rfl rfl rfl HBU.out hS3 ?_
    simp only [List.getElem_toArray, List.getElem_cons_succ, List.getElem_cons_zero, Act.put, List.setIfInBounds_toArray, List.set_cons_zero, List.set_cons_succ]
    have b4 := below_setRow b3 (Nat.le_refl _) pc.toArray
    refine hd_store 11 W0.heap.size pc.toArray 29 _ _ rfl rfl rfl (by kernel_rfl) rfl rfl y3 (by rw [List.size_toArray]; exact infoS HL.out) (by rw [hzs, List.size_toArray, HL.out]) HAL.out (HRW.out _ b4) ?_
    refine wpAnyH_done (by kernel_rfl) (NoPanic.normal ?_) _
    go_wp2_with fail
    exact bodyPost_ret (results_cell_row rfl _ _ W0.heap.size _ _ (0, 0) _ rfl (y3.setRow pc.toArray) Tryz.underlying29 rfl (by rw [List.size_toArray]; exact infoS HL.out)) rfl ⟨rfl, bel_on b0.out b4⟩
  · have hu := HU1.out hz
    subst hu
    have hz2 : ¬ ((i : Int) = 0) := by omega
    clear HU0 HU1 HV
    go_enter Tryz.func91, Tryz.ntmps91
    go_wp2_with (first | (rw [← HW0.out]) | (rw [← HW1.out]))
    obtain ⟨w2, hw2⟩ : ∃ W, W = W1.drew := ⟨_, rfl⟩
    have b2 : Below W0.heap.size W0 w2 := by rw [hw2]; exact b1.out.drew
    have y2 : Blk w2 W0.heap.size 29 zc := by rw [hw2]; exact y1.out.drew
    refine wp_region_noPanic ?_
    refine wp_region_held_drew (S := fun W => W.cell? ⟨w.heap.size, 2, none⟩ = some (.int .i64 b) ∧ W.rangeAt w.heap.size 3 (cellsB sk) ∧ W.rangeAt w.heap.size 19 [.slice A n1 ca, .slice Bd n2 cb]) (by kernel_rfl) (by rw [← hw2]; exact HRW.out _ b2) (fun hS => ?_)
    rw [← hw2] at hS ⊢
    clear hw2
    refine hd_take 0 (.int .i64 u) rfl rfl (by kernel_rfl) (by kernel_rfl) (by kernel_rfl) (fun _ _ _ h => h) (fun w hw => by go_simp) hS ?_
    refine hd_take 1 (.pointer (some ⟨w.heap.size, 2, none⟩)) rfl rfl (by kernel_rfl) (by kernel_rfl) (by kernel_rfl) (fun _ _ _ h => h) (fun w hw => by go_simp) hS ?_
    refine hd_take 3 (.pointer (some ⟨w.heap.size, 3, none⟩)) rfl rfl (by kernel_rfl) (by kernel_rfl) (by kernel_rfl) (fun _ _ _ h => h) (fun w hw => by go_simp) hS ?_
    refine hd_take 5 (.int .i64 (i : Int)) rfl rfl (by kernel_rfl) (by kernel_rfl) (by kernel_rfl) (fun _ _ _ h => h) (fun w hw => by go_simp) hS ?_
    refine hd_take 8 (.pointer (some ⟨w.heap.size, 19, none⟩)) rfl rfl (by kernel_rfl) (by kernel_rfl) (by kernel_rfl) (fun _ _ _ h => h) (fun w hw => by go_simp) hS ?_
    simp only [List.getElem_toArray, List.getElem_cons_succ, List.getElem_cons_zero, Act.put, List.setIfInBounds_toArray, List.set_cons_zero, List.set_cons_succ]
    refine hd_take 2 (.int .i64 b) rfl rfl (by kernel_rfl) (by kernel_rfl) (by kernel_rfl) (fun _ _ _ h => h) (fun w hw => by have hx := hw.1; simp [go_sem, hx]) hS ?_
    refine hd_load 4 w.heap.size 3 (cellsB sk) 23 (.tmp 15) rfl rfl rfl (by kernel_rfl) (by kernel_rfl) (by kernel_rfl) (fun _ _ _ h => h) rfl (fun w hw => hw.2.1) under_key rfl (infoL16 (by rw [cellsB_length, HKK.out])) hS ?_
    refine hd_take 6 (.int .u64 (i : Int)) rfl rfl (by kernel_rfl) (by kernel_rfl) (by kernel_rfl) (fun _ _ _ h => h) (fun w hw => by simp [go_sem, ei, ei0]) hS ?_
    refine hd_load 9 w.heap.size 19 [.slice A n1 ca, .slice Bd n2 cb] 27 (.tmp 20) rfl rfl rfl (by kernel_rfl) (by kernel_rfl) (by kernel_rfl) (fun _ _ _ h => h) rfl (fun w hw => hw.2.2) Tryz.underlying27 rfl (by kernel_rfl) hS ?_
    simp only [List.getElem_toArray, List.getElem_cons_succ, List.getElem_cons_zero, Act.put, List.setIfInBounds_toArray, List.set_cons_zero, List.set_cons_succ]
    refine hd_calls 7 120 #[.agg (cellsB sk).toArray, .int .u8 71, .int .u64 (i : Int)] rfl rfl (by kernel_rfl) (by go_simp) ((HDE.out _).mono ?_)
    rintro e w3 ⟨rfl, hb⟩
    have b3 := bel_on b2 hb
    have y3 := y2.below' hb
    have hS3 := HRW.out _ b3
    refine ⟨_, rfl, hS3, ?_⟩
    simp only [List.getElem_toArray, List.getElem_cons_succ, List.getElem_cons_zero, Act.put, List.setIfInBounds_toArray, List.set_cons_zero, List.set_cons_succ]
    refine hd_build4 10 29 _ (.int .i64 b) (.agg (cellsB dk).toArray) (.agg #[.slice A n1 ca, .slice Bd n2 cb]) pc.toArray _ _ _ _ rfl rfl rfl (by kernel_rfl) (by kernel_rfl) (by kernel_rfl) (fun _ _ _ h => h) rfl rfl rfl rfl HBU.out hS3 ?_
    simp only [List.getElem_toArray, List.getElem_cons_succ, List.getElem_cons_zero, Act.put, List.setIfInBounds_toArray, List.set_cons_zero, List.set_cons_succ]
    have b4 := below_setRow b3 (Nat.le_refl _) pc.toArray
    refine hd_store 11 W0.heap.size pc.toArray 29 _ _ rfl rfl rfl (by kernel_rfl) rfl rfl y3 (by rw [List.size_toArray]; exact infoS HL.out) (by rw [hzs, List.size_toArray, HL.out]) HAL.out (HRW.out _ b4) ?_
    refine wpAnyH_done (by kernel_rfl) (NoPanic.normal ?_) _
    go_wp2_with fail
    exact bodyPost_ret (results_cell_row rfl _ _ W0.heap.size _ _ (0, 0) _ rfl (y3.setRow pc.toArray) Tryz.underlying29 rfl (by rw [List.size_toArray]; exact infoS HL.out)) rfl ⟨rfl, bel_on b0.out b4⟩

set_option maxHeartbeats 8000000 in
set_option maxRecDepth 1000000 in
theorem GroupsOf_any (l : LevV) (w : World) (h : LevOK w l) :
    Calls Tryz.prog 92 #[.agg l.cs.toArray] w fun e w' => e = .returned (.agg (l.part 0).cs.toArray) ∧ Below w.heap.size w w' := by
  have hk := h.k16
  have HKK : Hid (l.k.length = 16) := hk
  obtain ⟨W0, hW0⟩ : ∃ W : World, W = w.alloc (.cells l.cs.toArray 60) := ⟨_, rfl⟩
  have b0 : Hid (Below w.heap.size w W0) := by unfold Hid; rw [hW0]; exact alloc_below _ _
  have x0 : Hid (Blk W0 w.heap.size 60 l.cs.toArray) := by unfold Hid; rw [hW0]; exact Blk.new w _ _
  obtain ⟨W1, hW1⟩ : ∃ W : World, W = W0.alloc (.cells zeroSt 29) := ⟨_, rfl⟩
  have b1 : Hid (Below W0.heap.size W0 W1) := by unfold Hid; rw [hW1]; exact alloc_bel _ _
  obtain ⟨zc, hzc⟩ : ∃ z, zeroSt = z := ⟨_, rfl⟩
  have hzs : zc.size = 20 := by rw [← hzc]; rfl
  have y1 : Hid (Blk W1 W0.heap.size 29 zc) := by unfold Hid; rw [hW1, ← hzc]; exact Blk.new _ _ _
  have HW0 := Lib.hid hW0
  have HW1 : Hid (W1 = W0.alloc (.cells #[.int .i64 0, .int .i64 0, .int .u8 0, .int .u8 0, .int .u8 0, .int .u8 0, .int .u8 0, .int .u8 0, .int .u8 0, .int .u8 0, .int .u8 0, .int .u8 0, .int .u8 0, .int .u8 0, .int .u8 0, .int .u8 0, .int .u8 0, .int .u8 0, .slice none 0 0, .slice none 0 0] 29)) := hW1
  have HR : Hid (∀ W, Below W0.heap.size W0 W → W.cell? ⟨w.heap.size, 0, none⟩ = some (.int .i64 l.g) ∧ W.cell? ⟨w.heap.size, 1, none⟩ = some (.int .i64 l.m) ∧ W.cell? ⟨w.heap.size, 2, none⟩ = some (.int .i64 l.b) ∧ W.rangeAt w.heap.size 3 (cellsB l.k) ∧ W.rangeAt w.heap.size 19 [.slice l.A l.x.length l.ca, .slice l.Bd l.y.length l.cb]) := fun W hW => LevV.cells hk (x0.out.below' hW)
  have HDE : Hid (∀ W, Calls Tryz.prog 119 #[.agg (cellsB l.k).toArray, .int .u8 71, .int .u64 0] W fun e w' => e = .returned (.agg (cellsB (derS l.k 71 (UInt64.ofNat 0))).toArray) ∧ Below W.heap.size W w') := fun W => by
    have := refDerive_any l.k 71 (UInt64.ofNat 0) W hk
    rwa [show ((UInt64.ofNat 0).toNat : Int) = 0 from by first | rfl | (rw [UInt64.toNat_ofNat']; omega)] at this
  have HDK : Hid ((derS l.k 71 (UInt64.ofNat 0)).length = 16) := rfl
  have HF : Hid ((l.part 0).cs = .int .i64 l.g :: .int .i64 l.b :: (cellsB (derS l.k 71 (UInt64.ofNat 0)) ++ [.slice l.A l.x.length l.ca, .slice l.Bd l.y.length l.cb])) := rfl
  have HBU : Hid (Tryz.prog.built 29 [(0, .int .i64 l.g), (1, .int .i64 l.b), (2, .agg (cellsB (derS l.k 71 (UInt64.ofNat 0))).toArray), (3, .agg #[.slice l.A l.x.length l.ca, .slice l.Bd l.y.length l.cb])] = some (l.part 0).cs.toArray) := by
    unfold Hid
    rw [HF.out]
    exact built_steps _ _ _ _ _ _ _ _ _ rfl
  have HL : Hid ((l.part 0).cs.length = 20) := StV.len rfl
  have HAL := Lib.hid (l.part 0).all
  generalize (l.part 0).cs = pc at HBU HL HAL ⊢
  generalize derS l.k 71 (UInt64.ofNat 0) = dk at HDE HDK HBU
  generalize l.k = sk at *
  generalize l.A = A at *
  generalize l.Bd = Bd at *
  generalize l.x.length = n1 at *
  generalize l.y.length = n2 at *
  generalize l.ca = ca at *
  generalize l.cb = cb at *
  generalize l.b = b at *
  generalize l.g = gg at *
  generalize l.m = mm at *
  generalize l.cs = cs at *
  have mixed : Tryz.prog.follows Departure.mixedOrders = true := by kernel_rfl
  clear h hk hW0 hW1 hzc HF
  go_enter Tryz.func92, Tryz.ntmps92
  go_wp2_with (first | (rw [← HW0.out]) | (rw [← HW1.out]))
  obtain ⟨w2, hw2⟩ : ∃ W, W = W1.drew := ⟨_, rfl⟩
  have b2 : Below W0.heap.size W0 w2 := by rw [hw2]; exact b1.out.drew
  have y2 : Blk w2 W0.heap.size 29 zc := by rw [hw2]; exact y1.out.drew
  refine wp_region_noPanic ?_
  refine wp_region_held_drew (S := fun W => W.cell? ⟨w.heap.size, 0, none⟩ = some (.int .i64 gg) ∧ W.cell? ⟨w.heap.size, 1, none⟩ = some (.int .i64 mm) ∧ W.cell? ⟨w.heap.size, 2, none⟩ = some (.int .i64 b) ∧ W.rangeAt w.heap.size 3 (cellsB sk) ∧ W.rangeAt w.heap.size 19 [.slice A n1 ca, .slice Bd n2 cb]) (by kernel_rfl) (by rw [← hw2]; exact HR.out _ b2) (fun hS => ?_)
  rw [← hw2] at hS ⊢
  clear hw2
  refine hd_take 0 (.pointer (some ⟨w.heap.size, 0, none⟩)) rfl rfl (by kernel_rfl) (by kernel_rfl) (by kernel_rfl) (fun _ _ _ h => h) (fun w hw => by go_simp) hS ?_
  refine hd_take 2 (.pointer (some ⟨w.heap.size, 2, none⟩)) rfl rfl (by kernel_rfl) (by kernel_rfl) (by kernel_rfl) (fun _ _ _ h => h) (fun w hw => by go_simp) hS ?_
  refine hd_take 4 (.pointer (some ⟨w.heap.size, 3, none⟩)) rfl rfl (by kernel_rfl) (by kernel_rfl) (by kernel_rfl) (fun _ _ _ h => h) (fun w hw => by go_simp) hS ?_
  refine hd_take 7 (.pointer (some ⟨w.heap.size, 19, none⟩)) rfl rfl (by kernel_rfl) (by kernel_rfl) (by kernel_rfl) (fun _ _ _ h => h) (fun w hw => by go_simp) hS ?_
  simp only [List.getElem_toArray, List.getElem_cons_succ, List.getElem_cons_zero, Act.put, List.setIfInBounds_toArray, List.set_cons_zero, List.set_cons_succ]
  refine hd_take 1 (.int .i64 gg) rfl rfl (by kernel_rfl) (by kernel_rfl) (by kernel_rfl) (fun _ _ _ h => h) (fun w hw => by have hx := hw.1; simp [go_sem, hx]) hS ?_
  refine hd_take 3 (.int .i64 b) rfl rfl (by kernel_rfl) (by kernel_rfl) (by kernel_rfl) (fun _ _ _ h => h) (fun w hw => by have hx := hw.2.2.1; simp [go_sem, hx]) hS ?_
  refine hd_load 5 w.heap.size 3 (cellsB sk) 23 (.tmp 7) rfl rfl rfl (by kernel_rfl) (by kernel_rfl) (by kernel_rfl) (fun _ _ _ h => h) rfl (fun w hw => hw.2.2.2.1) under_key rfl (infoL16 (by rw [cellsB_length, HKK.out])) hS ?_
  refine hd_load 8 w.heap.size 19 [.slice A n1 ca, .slice Bd n2 cb] 27 (.tmp 10) rfl rfl rfl (by kernel_rfl) (by kernel_rfl) (by kernel_rfl) (fun _ _ _ h => h) rfl (fun w hw => hw.2.2.2.2) Tryz.underlying27 rfl (by kernel_rfl) hS ?_
  simp only [List.getElem_toArray, List.getElem_cons_succ, List.getElem_cons_zero, Act.put, List.setIfInBounds_toArray, List.set_cons_zero, List.set_cons_succ]
  refine hd_calls 6 119 #[.agg (cellsB sk).toArray, .int .u8 71, .int .u64 0] rfl rfl (by kernel_rfl) (by go_simp) ((HDE.out _).mono ?_)
  rintro e w3 ⟨rfl, hb⟩
  have b3 := bel_on b2 hb
  have y3 := y2.below' hb
  have hS3 := HR.out _ b3
  refine ⟨_, rfl, hS3, ?_⟩
  simp only [List.getElem_toArray, List.getElem_cons_succ, List.getElem_cons_zero, Act.put, List.setIfInBounds_toArray, List.set_cons_zero, List.set_cons_succ]
  refine hd_build4 9 29 (.int .i64 gg) (.int .i64 b) (.agg (cellsB dk).toArray) (.agg #[.slice A n1 ca, .slice Bd n2 cb]) pc.toArray _ _ _ _ rfl rfl rfl (by kernel_rfl) (by kernel_rfl) (by kernel_rfl) (fun _ _ _ h => h) rfl rfl rfl rfl HBU.out hS3 ?_
  simp only [List.getElem_toArray, List.getElem_cons_succ, List.getElem_cons_zero, Act.put, List.setIfInBounds_toArray, List.set_cons_zero, List.set_cons_succ]
  have b4 := below_setRow b3 (Nat.le_refl _) pc.toArray
  refine hd_store 10 W0.heap.size pc.toArray 29 _ _ rfl rfl rfl (by kernel_rfl) rfl rfl y3 (by rw [List.size_toArray]; exact infoS HL.out) (by rw [hzs, List.size_toArray, HL.out]) HAL.out (HR.out _ b4) ?_
  refine wpAnyH_done (by kernel_rfl) (NoPanic.normal ?_) _
  go_wp2_with fail
  exact bodyPost_ret (results_cell_row rfl _ _ W0.heap.size _ _ (0, 0) _ rfl (y3.setRow pc.toArray) Tryz.underlying29 rfl (by rw [List.size_toArray]; exact infoS HL.out)) rfl ⟨rfl, bel_on b0.out b4⟩

set_option maxHeartbeats 8000000 in
set_option maxRecDepth 1000000 in
theorem MembersOf_any (l : LevV) (i : Nat) (w : World) (h : LevOK w l) (hi : i ≤ 1000000) :
    Calls Tryz.prog 65 #[.agg l.cs.toArray, .int .i64 (i : Int)] w fun e w' => e = .returned (.agg (l.part (i + 1)).cs.toArray) ∧ Below w.heap.size w w' := by
  have hk := h.k16
  have HKK : Hid (l.k.length = 16) := hk
  obtain ⟨W0, hW0⟩ : ∃ W : World, W = w.alloc (.cells l.cs.toArray 60) := ⟨_, rfl⟩
  have b0 : Hid (Below w.heap.size w W0) := by unfold Hid; rw [hW0]; exact alloc_below _ _
  have x0 : Hid (Blk W0 w.heap.size 60 l.cs.toArray) := by unfold Hid; rw [hW0]; exact Blk.new w _ _
  obtain ⟨W1, hW1⟩ : ∃ W : World, W = W0.alloc (.cells zeroSt 29) := ⟨_, rfl⟩
  have b1 : Hid (Below W0.heap.size W0 W1) := by unfold Hid; rw [hW1]; exact alloc_bel _ _
  obtain ⟨zc, hzc⟩ : ∃ z, zeroSt = z := ⟨_, rfl⟩
  have hzs : zc.size = 20 := by rw [← hzc]; rfl
  have y1 : Hid (Blk W1 W0.heap.size 29 zc) := by unfold Hid; rw [hW1, ← hzc]; exact Blk.new _ _ _
  have HW0 := Lib.hid hW0
  have HW1 : Hid (W1 = W0.alloc (.cells #[.int .i64 0, .int .i64 0, .int .u8 0, .int .u8 0, .int .u8 0, .int .u8 0, .int .u8 0, .int .u8 0, .int .u8 0, .int .u8 0, .int .u8 0, .int .u8 0, .int .u8 0, .int .u8 0, .int .u8 0, .int .u8 0, .int .u8 0, .int .u8 0, .slice none 0 0, .slice none 0 0] 29)) := hW1
  have HR : Hid (∀ W, Below W0.heap.size W0 W → W.cell? ⟨w.heap.size, 0, none⟩ = some (.int .i64 l.g) ∧ W.cell? ⟨w.heap.size, 1, none⟩ = some (.int .i64 l.m) ∧ W.cell? ⟨w.heap.size, 2, none⟩ = some (.int .i64 l.b) ∧ W.rangeAt w.heap.size 3 (cellsB l.k) ∧ W.rangeAt w.heap.size 19 [.slice l.A l.x.length l.ca, .slice l.Bd l.y.length l.cb]) := fun W hW => LevV.cells hk (x0.out.below' hW)
  have HDE : Hid (∀ W, Calls Tryz.prog 119 #[.agg (cellsB l.k).toArray, .int .u8 71, .int .u64 ((i : Int) + 1)] W fun e w' => e = .returned (.agg (cellsB (derS l.k 71 (UInt64.ofNat (i + 1)))).toArray) ∧ Below W.heap.size W w') := fun W => by
    have := refDerive_any l.k 71 (UInt64.ofNat (i + 1)) W hk
    rwa [show ((UInt64.ofNat (i + 1)).toNat : Int) = ((i : Int) + 1) from by first | rfl | (rw [UInt64.toNat_ofNat']; omega)] at this
  have HDK : Hid ((derS l.k 71 (UInt64.ofNat (i + 1))).length = 16) := rfl
  have HF : Hid ((l.part (i + 1)).cs = .int .i64 l.m :: .int .i64 l.b :: (cellsB (derS l.k 71 (UInt64.ofNat (i + 1))) ++ [.slice l.A l.x.length l.ca, .slice l.Bd l.y.length l.cb])) := rfl
  have HBU : Hid (Tryz.prog.built 29 [(0, .int .i64 l.m), (1, .int .i64 l.b), (2, .agg (cellsB (derS l.k 71 (UInt64.ofNat (i + 1)))).toArray), (3, .agg #[.slice l.A l.x.length l.ca, .slice l.Bd l.y.length l.cb])] = some (l.part (i + 1)).cs.toArray) := by
    unfold Hid
    rw [HF.out]
    exact built_steps _ _ _ _ _ _ _ _ _ rfl
  have HL : Hid ((l.part (i + 1)).cs.length = 20) := StV.len rfl
  have HAL := Lib.hid (l.part (i + 1)).all
  generalize (l.part (i + 1)).cs = pc at HBU HL HAL ⊢
  generalize derS l.k 71 (UInt64.ofNat (i + 1)) = dk at HDE HDK HBU
  generalize l.k = sk at *
  generalize l.A = A at *
  generalize l.Bd = Bd at *
  generalize l.x.length = n1 at *
  generalize l.y.length = n2 at *
  generalize l.ca = ca at *
  generalize l.cb = cb at *
  generalize l.b = b at *
  generalize l.g = gg at *
  generalize l.m = mm at *
  generalize l.cs = cs at *
  have ei : IntKind.u64.wrap (i : Int) = (i : Int) := by rw [IntKind.wrap_u64]; omega
  have ei1 : IntKind.u64.wrap ((i : Int) + 1) = (i : Int) + 1 := by rw [IntKind.wrap_u64]; omega
  have mixed : Tryz.prog.follows Departure.mixedOrders = true := by kernel_rfl
  clear h hk hW0 hW1 hzc HF
  go_enter Tryz.func65, Tryz.ntmps65
  go_wp2_with (first | (rw [← HW0.out]) | (rw [← HW1.out]))
  obtain ⟨w2, hw2⟩ : ∃ W, W = W1.drew := ⟨_, rfl⟩
  have b2 : Below W0.heap.size W0 w2 := by rw [hw2]; exact b1.out.drew
  have y2 : Blk w2 W0.heap.size 29 zc := by rw [hw2]; exact y1.out.drew
  refine wp_region_noPanic ?_
  refine wp_region_held_drew (S := fun W => W.cell? ⟨w.heap.size, 0, none⟩ = some (.int .i64 gg) ∧ W.cell? ⟨w.heap.size, 1, none⟩ = some (.int .i64 mm) ∧ W.cell? ⟨w.heap.size, 2, none⟩ = some (.int .i64 b) ∧ W.rangeAt w.heap.size 3 (cellsB sk) ∧ W.rangeAt w.heap.size 19 [.slice A n1 ca, .slice Bd n2 cb]) (by kernel_rfl) (by rw [← hw2]; exact HR.out _ b2) (fun hS => ?_)
  rw [← hw2] at hS ⊢
  clear hw2
  refine hd_take 0 (.pointer (some ⟨w.heap.size, 1, none⟩)) rfl rfl (by kernel_rfl) (by kernel_rfl) (by kernel_rfl) (fun _ _ _ h => h) (fun w hw => by go_simp) hS ?_
  refine hd_take 2 (.pointer (some ⟨w.heap.size, 2, none⟩)) rfl rfl (by kernel_rfl) (by kernel_rfl) (by kernel_rfl) (fun _ _ _ h => h) (fun w hw => by go_simp) hS ?_
  refine hd_take 4 (.pointer (some ⟨w.heap.size, 3, none⟩)) rfl rfl (by kernel_rfl) (by kernel_rfl) (by kernel_rfl) (fun _ _ _ h => h) (fun w hw => by go_simp) hS ?_
  refine hd_take 6 (.int .i64 (i : Int)) rfl rfl (by kernel_rfl) (by kernel_rfl) (by kernel_rfl) (fun _ _ _ h => h) (fun w hw => by go_simp) hS ?_
  refine hd_take 10 (.pointer (some ⟨w.heap.size, 19, none⟩)) rfl rfl (by kernel_rfl) (by kernel_rfl) (by kernel_rfl) (fun _ _ _ h => h) (fun w hw => by go_simp) hS ?_
  simp only [List.getElem_toArray, List.getElem_cons_succ, List.getElem_cons_zero, Act.put, List.setIfInBounds_toArray, List.set_cons_zero, List.set_cons_succ]
  refine hd_take 1 (.int .i64 mm) rfl rfl (by kernel_rfl) (by kernel_rfl) (by kernel_rfl) (fun _ _ _ h => h) (fun w hw => by have hx := hw.2.1; simp [go_sem, hx]) hS ?_
  refine hd_take 3 (.int .i64 b) rfl rfl (by kernel_rfl) (by kernel_rfl) (by kernel_rfl) (fun _ _ _ h => h) (fun w hw => by have hx := hw.2.2.1; simp [go_sem, hx]) hS ?_
  refine hd_load 5 w.heap.size 3 (cellsB sk) 23 (.tmp 9) rfl rfl rfl (by kernel_rfl) (by kernel_rfl) (by kernel_rfl) (fun _ _ _ h => h) rfl (fun w hw => hw.2.2.2.1) under_key rfl (infoL16 (by rw [cellsB_length, HKK.out])) hS ?_
  refine hd_take 7 (.int .u64 (i : Int)) rfl rfl (by kernel_rfl) (by kernel_rfl) (by kernel_rfl) (fun _ _ _ h => h) (fun w hw => by simp [go_sem, ei]) hS ?_
  refine hd_load 11 w.heap.size 19 [.slice A n1 ca, .slice Bd n2 cb] 27 (.tmp 15) rfl rfl rfl (by kernel_rfl) (by kernel_rfl) (by kernel_rfl) (fun _ _ _ h => h) rfl (fun w hw => hw.2.2.2.2) Tryz.underlying27 rfl (by kernel_rfl) hS ?_
  simp only [List.getElem_toArray, List.getElem_cons_succ, List.getElem_cons_zero, Act.put, List.setIfInBounds_toArray, List.set_cons_zero, List.set_cons_succ]
  refine hd_take 8 (.int .u64 ((i : Int) + 1)) rfl rfl (by kernel_rfl) (by kernel_rfl) (by kernel_rfl) (fun _ _ _ h => h) (fun w hw => by simp [go_sem, ei1]) hS ?_
  simp only [List.getElem_toArray, List.getElem_cons_succ, List.getElem_cons_zero, Act.put, List.setIfInBounds_toArray, List.set_cons_zero, List.set_cons_succ]
  refine hd_calls 9 119 #[.agg (cellsB sk).toArray, .int .u8 71, .int .u64 ((i : Int) + 1)] rfl rfl (by kernel_rfl) (by go_simp) ((HDE.out _).mono ?_)
  rintro e w3 ⟨rfl, hb⟩
  have b3 := bel_on b2 hb
  have y3 := y2.below' hb
  have hS3 := HR.out _ b3
  refine ⟨_, rfl, hS3, ?_⟩
  simp only [List.getElem_toArray, List.getElem_cons_succ, List.getElem_cons_zero, Act.put, List.setIfInBounds_toArray, List.set_cons_zero, List.set_cons_succ]
  refine hd_build4 12 29 (.int .i64 mm) (.int .i64 b) (.agg (cellsB dk).toArray) (.agg #[.slice A n1 ca, .slice Bd n2 cb]) pc.toArray _ _ _ _ rfl rfl rfl (by kernel_rfl) (by kernel_rfl) (by kernel_rfl) (fun _ _ _ h => h) rfl rfl rfl rfl HBU.out hS3 ?_
  simp only [List.getElem_toArray, List.getElem_cons_succ, List.getElem_cons_zero, Act.put, List.setIfInBounds_toArray, List.set_cons_zero, List.set_cons_succ]
  have b4 := below_setRow b3 (Nat.le_refl _) pc.toArray
  refine hd_store 13 W0.heap.size pc.toArray 29 _ _ rfl rfl rfl (by kernel_rfl) rfl rfl y3 (by rw [List.size_toArray]; exact infoS HL.out) (by rw [hzs, List.size_toArray, HL.out]) HAL.out (HR.out _ b4) ?_
  refine wpAnyH_done (by kernel_rfl) (NoPanic.normal ?_) _
  go_wp2_with fail
  exact bodyPost_ret (results_cell_row rfl _ _ W0.heap.size _ _ (0, 0) _ rfl (y3.setRow pc.toArray) Tryz.underlying29 rfl (by rw [List.size_toArray]; exact infoS HL.out)) rfl ⟨rfl, bel_on b0.out b4⟩

/-- Checking a code of two levels. -/
def levCk (s : LevV) : Int := ckSt s.ok
theorem max_ck (a b : Bool) : max (ckSt a) (ckSt b) = ckSt (a && b) := by cases a <;> cases b <;> decide
set_option maxHeartbeats 8000000 in
set_option maxRecDepth 1000000 in
theorem CheckLevels_any (l : LevV) (w : World) (h : LevOK w l) :
    Calls Tryz.prog 37 #[.agg l.cs.toArray] w fun e w' => e = .returned (.int .i64 (ckSt l.ok)) ∧ Below w.heap.size w w' := by
  have hk := h.k16
  obtain ⟨W0, hW0⟩ : ∃ W : World, W = w.alloc (.cells l.cs.toArray 60) := ⟨_, rfl⟩
  have b0 : Hid (Below w.heap.size w W0) := by unfold Hid; rw [hW0]; exact alloc_below _ _
  have x0 : Hid (Blk W0 w.heap.size 60 l.cs.toArray) := by unfold Hid; rw [hW0]; exact Blk.new w _ _
  have HW0 := Lib.hid hW0
  have HRW : Hid (∀ W, Below W0.heap.size W0 W → W.rangeAt w.heap.size 0 l.cs) := fun W hW => (x0.out.below' hW).range
  have HP0 : Hid (∀ W, Below w.heap.size w W → Calls Tryz.prog 91 #[.agg l.cs.toArray, .int .i64 0] W fun e w' => e = .returned (.agg (l.part 0).cs.toArray) ∧ Below W.heap.size W w') := fun W hW => part_any l 0 W (h.below hW) (by omega)
  have HP1 : Hid (∀ W, Below w.heap.size w W → Calls Tryz.prog 91 #[.agg l.cs.toArray, .int .i64 1] W fun e w' => e = .returned (.agg (l.part 1).cs.toArray) ∧ Below W.heap.size W w') := fun W hW => part_any l 1 W (h.below hW) (by omega)
  have HC0 : Hid (∀ W, Below w.heap.size w W → Calls Tryz.prog 21 #[.agg (l.part 0).cs.toArray] W fun e w' => e = .returned (.int .i64 (ckSt (l.part 0).ok)) ∧ Below W.heap.size W w') := fun W hW => CheckSteps_any _ W ((h.part 0).below hW)
  have HC1 : Hid (∀ W, Below w.heap.size w W → Calls Tryz.prog 21 #[.agg (l.part 1).cs.toArray] W fun e w' => e = .returned (.int .i64 (ckSt (l.part 1).ok)) ∧ Below W.heap.size W w') := fun W hW => CheckSteps_any _ W ((h.part 1).below hW)
  have HMX : Hid (max (ckSt (l.part 0).ok) (ckSt (l.part 1).ok) = ckSt l.ok) := max_ck _ _
  have HL : Hid (l.cs.length = 21) := LevV.len hk
  have hc0 : ckSt (l.part 0).ok = 0 ∨ ckSt (l.part 0).ok = 70 := by cases (l.part 0).ok; exact .inr rfl; exact .inl rfl
  have hc1 : ckSt (l.part 1).ok = 0 ∨ ckSt (l.part 1).ok = 70 := by cases (l.part 1).ok; exact .inr rfl; exact .inl rfl
  generalize ckSt l.ok = r at HMX ⊢
  generalize ckSt (l.part 0).ok = r0 at *
  generalize ckSt (l.part 1).ok = r1 at *
  generalize (l.part 0).cs = p0 at *
  generalize (l.part 1).cs = p1 at *
  generalize l.cs = cs at *
  have mixed : Tryz.prog.follows Departure.mixedOrders = true := by kernel_rfl
  clear h hk hW0
  go_enter Tryz.func37, Tryz.ntmps37
  go_wp2_with (rw [← HW0.out])
  obtain ⟨v0, hv0⟩ : ∃ W, W = W0.drew := ⟨_, rfl⟩
  have b1 : Below W0.heap.size W0 v0 := by rw [hv0]; exact (Below.refl _ _).drew
  refine wp_region_noPanic ?_
  refine wp_region_held_drew (S := fun W => W.rangeAt w.heap.size 0 cs) (by kernel_rfl) (by rw [← hv0]; exact HRW.out _ b1) (fun hS => ?_)
  rw [← hv0] at hS ⊢
  clear hv0
  refine hd_load 0 w.heap.size 0 cs 60 (.tmp 1) rfl rfl rfl (by kernel_rfl) (by kernel_rfl) (by kernel_rfl) (fun _ _ _ h => h) rfl (fun w hw => hw) Tryz.underlying60 rfl (infoV' HL.out) hS ?_
  refine hd_load 3 w.heap.size 0 cs 60 (.tmp 1) rfl rfl rfl (by kernel_rfl) (by kernel_rfl) (by kernel_rfl) (fun _ _ _ h => h) rfl (fun w hw => hw) Tryz.underlying60 rfl (infoV' HL.out) hS ?_
  simp only [List.getElem_toArray, List.getElem_cons_succ, List.getElem_cons_zero, Act.put, List.setIfInBounds_toArray, List.set_cons_zero, List.set_cons_succ]
  refine hd_calls 1 91 #[.agg cs.toArray, .int .i64 0] rfl rfl (by kernel_rfl) (by go_simp) ((HP0.out _ (bel_on b0.out b1)).mono ?_)
  rintro e v1 ⟨rfl, hb⟩
  have b2 := bel_on b1 hb
  clear hb
  have hS1 := HRW.out _ b2
  refine ⟨_, rfl, hS1, ?_⟩
  simp only [List.getElem_toArray, List.getElem_cons_succ, List.getElem_cons_zero, Act.put, List.setIfInBounds_toArray, List.set_cons_zero, List.set_cons_succ]
  refine hd_calls 2 21 #[.agg p0.toArray] rfl rfl (by kernel_rfl) (by go_simp) ((HC0.out _ (bel_on b0.out b2)).mono ?_)
  rintro e v2 ⟨rfl, hb⟩
  have b3 := bel_on b2 hb
  clear hb
  have hS2 := HRW.out _ b3
  refine ⟨_, rfl, hS2, ?_⟩
  simp only [List.getElem_toArray, List.getElem_cons_succ, List.getElem_cons_zero, Act.put, List.setIfInBounds_toArray, List.set_cons_zero, List.set_cons_succ]
  refine hd_calls 4 91 #[.agg cs.toArray, .int .i64 1] rfl rfl (by kernel_rfl) (by go_simp) ((HP1.out _ (bel_on b0.out b3)).mono ?_)
  rintro e v3 ⟨rfl, hb⟩
  have b4 := bel_on b3 hb
  clear hb
  have hS3 := HRW.out _ b4
  refine ⟨_, rfl, hS3, ?_⟩
  simp only [List.getElem_toArray, List.getElem_cons_succ, List.getElem_cons_zero, Act.put, List.setIfInBounds_toArray, List.set_cons_zero, List.set_cons_succ]
  refine hd_calls 5 21 #[.agg p1.toArray] rfl rfl (by kernel_rfl) (by go_simp) ((HC1.out _ (bel_on b0.out b4)).mono ?_)
  rintro e v4 ⟨rfl, hb⟩
  have b5 := bel_on b4 hb
  clear hb
  have hS4 := HRW.out _ b5
  refine ⟨_, rfl, hS4, ?_⟩
  simp only [List.getElem_toArray, List.getElem_cons_succ, List.getElem_cons_zero, Act.put, List.setIfInBounds_toArray, List.set_cons_zero, List.set_cons_succ]
  refine hd_take 6 (.int .i64 r) rfl rfl (by kernel_rfl) (by kernel_rfl) (by kernel_rfl) (fun _ _ _ h => h) (fun w hw => by rw [← HMX.out]; rcases hc0 with rfl | rfl <;> rcases hc1 with rfl | rfl <;> go_simp) hS4 ?_
  simp only [List.getElem_toArray, List.getElem_cons_succ, List.getElem_cons_zero, Act.put, List.setIfInBounds_toArray, List.set_cons_zero, List.set_cons_succ]
  refine hd_take 7 (.int .i64 r) rfl rfl (by kernel_rfl) (by kernel_rfl) (by kernel_rfl) (fun _ _ _ h => h) (fun w hw => by go_simp) hS4 ?_
  refine wpAnyH_done (by kernel_rfl) (NoPanic.normal ?_) _
  simp only [List.getElem_toArray, List.getElem_cons_succ, List.getElem_cons_zero, Act.put, List.setIfInBounds_toArray, List.set_cons_zero, List.set_cons_succ]
  go_wp2_with fail
  go_ret
  exact ⟨rfl, bel_on b0.out b5⟩
end Go.Proofs.YtenpkmgbaajeeaaGreat

/- What the frames of the laws share: a code of two levels among the arguments, opened. -/
namespace Go.Proofs.YtenpkmgbaajeeaaGreat
open Go.ChangeShapes Go.WideShapes Go.ChangeAt Go.RowKit Go.Deep
set_option linter.unusedVariables false

theorem cells_levelsT : Tryz.prog.cellsOf 60 = 21 := by kernel_rfl
set_option maxRecDepth 100000 in
theorem levels_of_trod {H : Type} {enc : TypeId × Value → H} {W : World} {fuel : Nat} {cs : List Value} {x : DataW H × List MemPlace} (h : DataW.trod enc Tryz.prog W 0 (fun _ => true) true fuel 60 cs = some x)
    (hw : ∀ n ∈ x.1.weights Tryz.prog 60, n ≤ reachBytes) : ∃ s : LevV, cs = s.cs ∧ LevOK W s := by
  obtain ⟨xs, n, _, rfl, hl, hlen, hf⟩ := DataW.trod_struct Tryz.underlying60 h
  match xs, hlen with
  | [y0, y1, y2, y3, y4], _ =>
    have h0 := hf 0 _ rfl
    have h1 := hf 1 _ rfl
    have h2 := hf 2 _ rfl
    have h3 := hf 3 _ rfl
    have h4 := hf 4 _ rfl
    have hw' : ∀ n ∈ DataW.weightsEach Tryz.prog [3, 3, 3, 23, 27] [y0.1, y1.1, y2.1, y3.1, y4.1], n ≤ reachBytes := by simpa [DataW.weights, Tryz.underlying60] using hw
    change DataW.trod enc Tryz.prog W 0 (fun _ => true) true n 3 ((cs.drop 0).take (Tryz.prog.cellsOf 3)) = some y0 at h0
    change DataW.trod enc Tryz.prog W 0 (fun _ => true) true n 3 ((cs.drop 1).take (Tryz.prog.cellsOf 3)) = some y1 at h1
    change DataW.trod enc Tryz.prog W 0 (fun _ => true) true n 3 ((cs.drop 2).take (Tryz.prog.cellsOf 3)) = some y2 at h2
    change DataW.trod enc Tryz.prog W 0 (fun _ => true) true n 23 ((cs.drop 3).take (Tryz.prog.cellsOf 23)) = some y3 at h3
    change DataW.trod enc Tryz.prog W 0 (fun _ => true) true n 27 ((cs.drop 19).take (Tryz.prog.cellsOf 27)) = some y4 at h4
    rw [cells_int] at h0 h1 h2
    rw [cells_keyT] at h3
    rw [cells_fracT] at h4
    rw [cells_levelsT] at hl
    obtain ⟨g, e0, _⟩ := int_of_trod h0
    obtain ⟨m, e1, _⟩ := int_of_trod h1
    obtain ⟨b, e2, _⟩ := int_of_trod h2
    obtain ⟨k, hk, e3⟩ := key_of_trod h3
    obtain ⟨A, c, a, B, e, d, e4, hx, hy⟩ := frac_of_trod h4 (fun m hm => hw' m (DataW.weights_mem_each (j := 4) rfl rfl m hm))
    refine ⟨⟨g, m, b, k, A, c, a, B, e, d⟩, ?_, ⟨hk, hx, hy⟩⟩
    match cs, hl with
    | c0 :: c1 :: c2 :: r, hl =>
      simp at e0 e1 e2
      have hr : r.length = 18 := by simpa using hl
      have a2 : List.take 16 r = cellsB k := by simpa using e3
      have a3 : List.drop 16 r = [.slice A a.length c, .slice B d.length e] := by
        rw [← e4]
        have e5 : List.drop (1 + 1 + 1 + 16) (c0 :: c1 :: c2 :: r) = List.drop 16 r := rfl
        first
          | (rw [e5, List.take_of_length_le (by simp; omega)])
          | (simp only [List.drop_succ_cons, List.drop_zero, Nat.reduceAdd]; rw [List.take_of_length_le (by simp; omega)])
      rw [e0, e1, e2, ← List.take_append_drop 16 r, a2, a3]
      rfl
set_option maxRecDepth 100000 in
theorem open_levels {H : Type} {enc : TypeId × Value → H} {W : World} {b0 : Nat} {v : Value} {d : DataW H} {ps : List MemPlace} (hval : Value.okWide Tryz.prog W .any b0 60 v) (hd : DataW.Trod enc Tryz.prog W 0 (fun _ => true) true 60 v d ps)
    (hw : ∀ n ∈ d.weights Tryz.prog 60, n ≤ reachBytes) : ∃ s : LevV, v = .agg s.cs.toArray ∧ LevOK W s := by
  obtain ⟨cs, rfl, hsz⟩ := okWide_struct Tryz.underlying60 hval
  obtain ⟨fuel, hf⟩ := hd
  obtain ⟨s, e, h1⟩ := levels_of_trod hf hw
  refine ⟨s, ?_, h1⟩
  rw [← e]
  simp [Value.cells]
end Go.Proofs.YtenpkmgbaajeeaaGreat

/- Append to bytes of the call's own, in a region that draws. -/
namespace Go.Proofs.YtenpkmgbaajeeaaGreat
open Go.RowKit
set_option linter.unusedVariables false
set_option linter.unusedSimpArgs false

section
variable {md : Region.Mode} {ops : Array Oper} {Q : Exit → Act → World → Prop} {S : World → Prop} {fuel : Nat} {listed : Array Bool} {a : Act} {w : World}
/-- append to bytes that the call owns, the only operation that may come up. -/
theorem hd_appendB (i : Nat) {oi : Oper} (s x : Operand) (hi : ops[i]? = some oi) (ho : oi.op = .call { callee := .builtin .append, args := #[s, x], argTypes := #[30, 30] }) (hg : oi.guard = none) (hr : Region.ready md ops listed = [i])
    (B : Nat) (A : Option Addr) (n c : Nat) (l : List UInt8) (hn : l.length = n) (hs : a.eval s = .slice A n c) (hown : OB B w A c l)
    (X : Option Addr) (m d : Nat) (news : List UInt8) (hm : news.length = m) (hx : a.eval x = .slice X m d) (hsrc : Src w 1 X m (cellsB news)) (hlen : n + m ≤ 140737488351232) (hB : B ≤ w.heap.size)
    (h : ∀ A' c' w', OB B w' A' c' (l ++ news) → Below B w w' → S w' ∧ wpAnyH Tryz.prog md ops Q S fuel (listed.setIfInBounds i true) (a.put oi.dst (.slice A' (n + m) c')) w') : wpAnyH Tryz.prog md ops Q S (fuel + 1) listed a w := by
  obtain ⟨i0, hi0, hz0, hz1, hz2⟩ := info_parts u8_info'
  subst hn hm
  obtain ⟨A', c', w', hrun, h2, h3, h4⟩ := run_append_src (P := Tryz.prog) w B 30 oi.type 5 i0 (.int .u8 0) 1 1 Tryz.underlying30 hi0 hz0 hz1 hz2 rfl (by omega) A l.length c (cellsB l) hown X news.length d (cellsB news) hsrc (cellsB_one _) (by simp only [maxLen]; omega) (by omega) hB
  refine hd_one i hi hg hr ?_
  refine Lib.wp_append_run w s x 30 30 ho _ _ hs hx _ w' hrun ?_
  refine h A' c' w' ?_ (grown_below (Below.refl _ _) hown h3 hB (Nat.le_refl _))
  unfold OB
  rw [cellsB_append, List.length_append]
  exact h2
end

end Go.Proofs.YtenpkmgbaajeeaaGreat

/- Words of a code of two levels, both sides; the reference's check. -/
namespace Go.Proofs.YtenpkmgbaajeeaaGreat
open Go.RowKit
set_option linter.unusedVariables false
set_option linter.unusedSimpArgs false

set_option maxHeartbeats 4000000 in
set_option maxRecDepth 1000000 in
theorem refValidLevels_any (l : LevV) (w : World) (h : LevOK w l) :
    Calls Tryz.prog 64 #[.agg l.cs.toArray] w fun e w' => e = .returned (.bool l.ok) ∧ Below w.heap.size w w' := by
  have hk := h.k16
  obtain ⟨W0, hW0⟩ : ∃ W : World, W = w.alloc (.cells l.cs.toArray 60) := ⟨_, rfl⟩
  have b0 : Hid (Below w.heap.size w W0) := by unfold Hid; rw [hW0]; exact alloc_below _ _
  have x0 : Hid (Blk W0 w.heap.size 60 l.cs.toArray) := by unfold Hid; rw [hW0]; exact Blk.new w _ _
  have HW0 := Lib.hid hW0
  have HIN := Lib.hid (infoV (LevV.len hk))
  have HX : Hid (∀ W, Below W0.heap.size W0 W → Blk W w.heap.size 60 l.cs.toArray) := fun W hW => x0.out.below' hW
  have HC : Hid (∀ W, Below W0.heap.size W0 W → W.cell? ⟨w.heap.size, 0, none⟩ = some (.int .i64 l.g) ∧ W.cell? ⟨w.heap.size, 1, none⟩ = some (.int .i64 l.m) ∧ W.cell? ⟨w.heap.size, 2, none⟩ = some (.int .i64 l.b)) := fun W hW => by
    obtain ⟨c0, c1, c2, -, -⟩ := LevV.cells hk (x0.out.below' hW)
    exact ⟨c0, c1, c2⟩
  clear HC
  have HG : Hid (∀ W, Below w.heap.size w W → Calls Tryz.prog 92 #[.agg l.cs.toArray] W fun e w' => e = .returned (.agg (l.part 0).cs.toArray) ∧ Below W.heap.size W w') := fun W hW => GroupsOf_any l W (h.below hW)
  have HM : Hid (∀ W, Below w.heap.size w W → Calls Tryz.prog 65 #[.agg l.cs.toArray, .int .i64 0] W fun e w' => e = .returned (.agg (l.part 1).cs.toArray) ∧ Below W.heap.size W w') := fun W hW => MembersOf_any l 0 W (h.below hW) (by omega)
  have HV0 : Hid (∀ W, Below w.heap.size w W → Calls Tryz.prog 43 #[.agg (l.part 0).cs.toArray] W fun e w' => e = .returned (.bool (l.part 0).ok) ∧ Below W.heap.size W w') := fun W hW => refValidSteps_any _ W ((h.part 0).below hW)
  have HV1 : Hid (∀ W, Below w.heap.size w W → Calls Tryz.prog 43 #[.agg (l.part 1).cs.toArray] W fun e w' => e = .returned (.bool (l.part 1).ok) ∧ Below W.heap.size W w') := fun W hW => refValidSteps_any _ W ((h.part 1).below hW)
  have HR : Hid (l.ok = ((l.part 0).ok && (l.part 1).ok)) := rfl
  generalize l.ok = r at HR ⊢
  generalize (l.part 0).ok = r0 at *
  generalize (l.part 1).ok = r1 at *
  generalize (l.part 0).cs = p0 at *
  generalize (l.part 1).cs = p1 at *
  generalize l.cs = cs at *
  clear h hk hW0
  cases r0 with
  | false =>
    go_enter Tryz.func64, Tryz.ntmps64
    go_wp2_with (first
      | (rw [← HW0.out])
      | (refine wpList_load_row rfl 60 (.tmp 1) rfl (w.heap.size) rfl 60 cs.toArray (0, 0) _ x0.out Tryz.underlying60 rfl HIN.out ?_)
      | (go_at_call 92; (with_reducible refine (HG.out _ b0.out).mono ?_); rintro e w1 ⟨rfl, hb⟩; have D1 := Lib.hid (bel_on b0.out hb); clear hb)
      | (go_at_call 43; (with_reducible refine (HV0.out _ D1.out).mono ?_); rintro e w2 ⟨rfl, hb⟩; have D2 := Lib.hid (bel_on D1.out hb); clear hb))
    go_ret
    exact ⟨by rw [HR.out]; rfl, D2.out⟩
  | true =>
    go_enter Tryz.func64, Tryz.ntmps64
    go_wp2_with (first
      | (rw [← HW0.out])
      | (refine wpList_load_row rfl 60 (.tmp 1) rfl (w.heap.size) rfl 60 cs.toArray (0, 0) _ x0.out Tryz.underlying60 rfl HIN.out ?_)
      | (refine BigFrame.wpList_want (by kernel_rfl) fun K hK => wp_load_row 60 (.tmp 1) rfl w.heap.size rfl 60 cs.toArray (0, 0) _ x2.out Tryz.underlying60 rfl HIN.out (hK _ _ ?_))
      | (go_at_call 92; (with_reducible refine (HG.out _ b0.out).mono ?_); rintro e w1 ⟨rfl, hb⟩; have D1 := Lib.hid (bel_on b0.out hb); have x1 := Lib.hid (x0.out.below' hb); clear hb)
      | (go_at_call 43; (with_reducible refine (HV0.out _ D1.out).mono ?_); rintro e w2 ⟨rfl, hb⟩; have D2 := Lib.hid (bel_on D1.out hb); have x2 := Lib.hid (x1.out.below' hb); clear hb)
      | (go_at_call 65; (with_reducible refine (HM.out _ D2.out).mono ?_); rintro e w3 ⟨rfl, hb⟩; have D3 := Lib.hid (bel_on D2.out hb); clear hb)
      | (go_at_call 43; (with_reducible refine (HV1.out _ D3.out).mono ?_); rintro e w4 ⟨rfl, hb⟩; have D4 := Lib.hid (bel_on D3.out hb); clear hb))
    go_ret
    exact ⟨by rw [HR.out]; rfl, D4.out⟩
set_option maxHeartbeats 4000000 in
set_option maxRecDepth 1000000 in
theorem refCheckLevels_any (l : LevV) (w : World) (h : LevOK w l) :
    Calls Tryz.prog 38 #[.agg l.cs.toArray] w fun e w' => e = .returned (.int .i64 (ckSt l.ok)) ∧ Below w.heap.size w w' := by
  have hk := h.k16
  obtain ⟨W0, hW0⟩ : ∃ W : World, W = w.alloc (.cells l.cs.toArray 60) := ⟨_, rfl⟩
  have b0 : Hid (Below w.heap.size w W0) := by unfold Hid; rw [hW0]; exact alloc_below _ _
  have x0 : Hid (Blk W0 w.heap.size 60 l.cs.toArray) := by unfold Hid; rw [hW0]; exact Blk.new w _ _
  have HW0 := Lib.hid hW0
  have HIN := Lib.hid (infoV (LevV.len hk))
  have HX : Hid (∀ W, Below W0.heap.size W0 W → Blk W w.heap.size 60 l.cs.toArray) := fun W hW => x0.out.below' hW
  have HC : Hid (∀ W, Below W0.heap.size W0 W → W.cell? ⟨w.heap.size, 0, none⟩ = some (.int .i64 l.g) ∧ W.cell? ⟨w.heap.size, 1, none⟩ = some (.int .i64 l.m) ∧ W.cell? ⟨w.heap.size, 2, none⟩ = some (.int .i64 l.b)) := fun W hW => by
    obtain ⟨c0, c1, c2, -, -⟩ := LevV.cells hk (x0.out.below' hW)
    exact ⟨c0, c1, c2⟩
  clear HC
  have HV : Hid (∀ W, Below w.heap.size w W → Calls Tryz.prog 64 #[.agg l.cs.toArray] W fun e w' => e = .returned (.bool l.ok) ∧ Below W.heap.size W w') := fun W hW => refValidLevels_any l W (h.below hW)
  have HR : Hid (∀ b, l.ok = b → ckSt l.ok = if b = true then 0 else 70) := fun b hb => by rw [hb]; rfl
  generalize l.ok = ok at *
  generalize l.cs = cs at *
  clear h hk hW0
  cases ok with
  | true =>
    have HR := HR.out true rfl
    go_enter Tryz.func38, Tryz.ntmps38
    go_wp2_with (first
      | (rw [← HW0.out])
      | (refine wpList_load_row rfl 60 (.tmp 1) rfl (w.heap.size) rfl 60 cs.toArray (0, 0) _ x0.out Tryz.underlying60 rfl HIN.out ?_)
      | (go_at_call 64; (with_reducible refine (HV.out _ b0.out).mono ?_); rintro e w1 ⟨rfl, hb⟩; have D1 := Lib.hid (bel_on b0.out hb); clear hb))
    go_ret
    exact ⟨rfl, D1.out⟩
  | false =>
    have HR := HR.out false rfl
    go_enter Tryz.func38, Tryz.ntmps38
    go_wp2_with (first
      | (rw [← HW0.out])
      | (refine wpList_load_row rfl 60 (.tmp 1) rfl (w.heap.size) rfl 60 cs.toArray (0, 0) _ x0.out Tryz.underlying60 rfl HIN.out ?_)
      | (go_at_call 64; (with_reducible refine (HV.out _ b0.out).mono ?_); rintro e w1 ⟨rfl, hb⟩; have D1 := Lib.hid (bel_on b0.out hb); clear hb))
    go_ret
    exact ⟨rfl, D1.out⟩

/-- A word of two levels and an error. -/
def LevV.wordR (l : LevV) (g m : Int) : List UInt8 × Int := if l.ok = false then ([], 70) else if g < 0 ∨ l.g ≤ g ∨ m < 0 ∨ l.m ≤ m then ([], 2) else ((l.part 0).word g.toNat ++ (l.part (g.toNat + 1)).word m.toNat, 0)
theorem LevV.bounds {l : LevV} (h : l.ok = true) : 2 ≤ l.g ∧ l.g ≤ 16 ∧ 2 ≤ l.m ∧ l.m ≤ 16 ∧ 1 ≤ l.b ∧ l.b ≤ 64 := by
  obtain ⟨⟨a1, a2, a3, a4⟩, _⟩ := StV.parts (LevV.ok_part h 0)
  obtain ⟨⟨b1, b2, _, _⟩, _⟩ := StV.parts (LevV.ok_part h 1)
  exact ⟨a1, a2, b1, b2, a3, a4⟩

set_option maxHeartbeats 4000000 in
set_option maxRecDepth 1000000 in
theorem LevelWord_any (l : LevV) (g m : Int) (w : World) (h : LevOK w l) (hg1 : -9223372036854775808 ≤ g) (hg2 : g ≤ 9223372036854775807) (hm1 : -9223372036854775808 ≤ m) (hm2 : m ≤ 9223372036854775807) :
    Calls Tryz.prog 35 #[.agg l.cs.toArray, .int .i64 g, .int .i64 m] w fun e w' => WordErr (l.wordR g m) e w' ∧ Below w.heap.size w w' := by
  have hk := h.k16
  obtain ⟨W0, hW0⟩ : ∃ W : World, W = w.alloc (.cells l.cs.toArray 60) := ⟨_, rfl⟩
  have b0 : Hid (Below w.heap.size w W0) := by unfold Hid; rw [hW0]; exact alloc_below _ _
  have x0 : Hid (Blk W0 w.heap.size 60 l.cs.toArray) := by unfold Hid; rw [hW0]; exact Blk.new w _ _
  have HW0 := Lib.hid hW0
  have HIN := Lib.hid (infoV (LevV.len hk))
  have HX : Hid (∀ W, Below W0.heap.size W0 W → Blk W w.heap.size 60 l.cs.toArray) := fun W hW => x0.out.below' hW
  have HC : Hid (∀ W, Below W0.heap.size W0 W → W.cell? ⟨w.heap.size, 0, none⟩ = some (.int .i64 l.g) ∧ W.cell? ⟨w.heap.size, 1, none⟩ = some (.int .i64 l.m) ∧ W.cell? ⟨w.heap.size, 2, none⟩ = some (.int .i64 l.b)) := fun W hW => by
    obtain ⟨c0, c1, c2, -, -⟩ := LevV.cells hk (x0.out.below' hW)
    exact ⟨c0, c1, c2⟩
  have HCK : Hid (∀ W, Below w.heap.size w W → Calls Tryz.prog 37 #[.agg l.cs.toArray] W fun e w' => e = .returned (.int .i64 (ckSt l.ok)) ∧ Below W.heap.size W w') := fun W hW => CheckLevels_any l W (h.below hW)
  cases hok : l.ok with
  | false =>
    rw [hok, show ckSt false = 70 from rfl] at HCK
    have HR : Hid (l.wordR g m = ([], 70)) := by unfold Hid LevV.wordR; rw [if_pos hok]
    generalize l.wordR g m = r at HR ⊢
    generalize l.cs = cs at *
    clear h hok hk hW0
    go_enter Tryz.func35, Tryz.ntmps35
    go_wp2_with (first
      | (rw [← HW0.out])
      | (refine wpList_load_row rfl 60 (.tmp 3) rfl (w.heap.size) rfl 60 cs.toArray (0, 0) _ x0.out Tryz.underlying60 rfl HIN.out ?_)
      | (go_at_call 37; (with_reducible refine (HCK.out _ b0.out).mono ?_); rintro e w1 ⟨rfl, hb⟩; have D1 := Lib.hid (bel_on b0.out hb); have G1 := Lib.hid hb; have x1 := Lib.hid (HX.out _ hb); obtain ⟨c0, c1, -⟩ := HC.out _ hb; clear hb))
    go_ret2
    exact ⟨wordErr_nil _ _ HR.out, D1.out⟩
  | true =>
    rw [hok, show ckSt true = 0 from rfl] at HCK
    obtain ⟨q1, q2, q3, q4, q5, q6⟩ := LevV.bounds hok
    by_cases hin : 0 ≤ g ∧ g < l.g ∧ 0 ≤ m ∧ m < l.m
    · obtain ⟨g0, gl, m0, ml⟩ := hin
      obtain ⟨gn, rfl⟩ : ∃ n : Nat, g = (n : Int) := ⟨g.toNat, by omega⟩
      obtain ⟨mn, rfl⟩ : ∃ n : Nat, m = (n : Int) := ⟨m.toNat, by omega⟩
      have HR : Hid (l.wordR (gn : Int) (mn : Int) = ((l.part 0).word gn ++ (l.part (gn + 1)).word mn, 0)) := by
        unfold Hid LevV.wordR
        rw [if_neg (by rw [hok]; simp), if_neg (by omega), Int.toNat_natCast, Int.toNat_natCast]
      obtain ⟨n1, hn1⟩ : ∃ n, (l.part 0).n = n := ⟨_, rfl⟩
      obtain ⟨n2, hn2⟩ : ∃ n, (l.part (gn + 1)).n = n := ⟨_, rfl⟩
      have hb1 : n1 ≤ 960 := by rw [← hn1]; exact (StV.n_le (LevV.ok_part hok 0)).2.1
      have hb2 : n2 ≤ 960 := by rw [← hn2]; exact (StV.n_le (LevV.ok_part hok (gn + 1))).2.1
      have HL1 : Hid (((l.part 0).word gn).length = n1) := by unfold Hid; rw [← hn1]; exact StV.word_len _ _
      have HL2 : Hid (((l.part (gn + 1)).word mn).length = n2) := by unfold Hid; rw [← hn2]; exact StV.word_len _ _
      have HW1_ : Hid (∀ W, Below w.heap.size w W → Calls Tryz.prog 19 #[.agg (l.part 0).cs.toArray, .int .i64 (gn : Int)] W fun e w' => (∃ A c, e = .returned (.tuple #[.slice A n1 c, .int .i64 0]) ∧ OB W.heap.size w' A c ((l.part 0).word gn)) ∧ Below W.heap.size W w') := fun W hW => by
        refine (StepWord_own _ _ W ((h.part 0).below hW) (by omega) (by omega)).mono ?_
        rintro e w' ⟨⟨A, c, he, ho⟩, hb⟩
        have hr : (l.part 0).wordR (gn : Int) = ((l.part 0).word gn, 0) := by
          unfold StV.wordR
          have : (l.part 0).u = l.g := rfl
          rw [if_neg (by rw [LevV.ok_part hok 0]; simp), if_neg (by rw [this]; omega), Int.toNat_natCast]
        rw [hr] at he ho
        exact ⟨⟨A, c, by rw [he, ← HL1.out], ho⟩, hb⟩
      have HW2_ : Hid (∀ W, Below w.heap.size w W → Calls Tryz.prog 19 #[.agg (l.part (gn + 1)).cs.toArray, .int .i64 (mn : Int)] W fun e w' => (∃ A c, e = .returned (.tuple #[.slice A n2 c, .int .i64 0]) ∧ OB W.heap.size w' A c ((l.part (gn + 1)).word mn)) ∧ Below W.heap.size W w') := fun W hW => by
        refine (StepWord_own _ _ W ((h.part (gn + 1)).below hW) (by omega) (by omega)).mono ?_
        rintro e w' ⟨⟨A, c, he, ho⟩, hb⟩
        have hr : (l.part (gn + 1)).wordR (mn : Int) = ((l.part (gn + 1)).word mn, 0) := by
          unfold StV.wordR
          have : (l.part (gn + 1)).u = l.m := rfl
          rw [if_neg (by rw [LevV.ok_part hok (gn + 1)]; simp), if_neg (by rw [this]; omega), Int.toNat_natCast]
        rw [hr] at he ho
        exact ⟨⟨A, c, by rw [he, ← HL2.out], ho⟩, hb⟩
      have HP0 : Hid (∀ W, Below w.heap.size w W → Calls Tryz.prog 91 #[.agg l.cs.toArray, .int .i64 0] W fun e w' => e = .returned (.agg (l.part 0).cs.toArray) ∧ Below W.heap.size W w') := fun W hW => part_any l 0 W (h.below hW) (by omega)
      have HP1 : Hid (∀ W, Below w.heap.size w W → Calls Tryz.prog 91 #[.agg l.cs.toArray, .int .i64 (1 + (gn : Int))] W fun e w' => e = .returned (.agg (l.part (gn + 1)).cs.toArray) ∧ Below W.heap.size W w') := fun W hW => by
        have := part_any l (gn + 1) W (h.below hW) (by omega)
        rwa [show ((gn + 1 : Nat) : Int) = 1 + (gn : Int) from by omega] at this
      have e1 : IntKind.i64.wrap (1 + (gn : Int)) = 1 + (gn : Int) := by rw [IntKind.wrap_i64]; omega
      have HF : Hid (∀ r e w', r = ((l.part 0).word gn ++ (l.part (gn + 1)).word mn, (0 : Int)) → (∃ A c, e = .returned (.tuple #[.slice A (n1 + n2) c, .int .i64 0]) ∧ OB w.heap.size w' A c ((l.part 0).word gn ++ (l.part (gn + 1)).word mn)) → WordErr r e w') := fun r e w' hr ⟨A, c, he, hB⟩ => by
        subst hr
        have hl : ((l.part 0).word gn ++ (l.part (gn + 1)).word mn).length = n1 + n2 := by rw [List.length_append, HL1.out, HL2.out]
        exact ⟨A, c, by rw [he, hl], hB.br (by omega)⟩
      generalize l.wordR (gn : Int) (mn : Int) = r at HR ⊢
      generalize (l.part 0).word gn = o1 at *
      generalize (l.part (gn + 1)).word mn = o2 at *
      generalize (l.part 0).cs = p0 at *
      generalize (l.part (gn + 1)).cs = p1 at *
      generalize l.g = G at *
      generalize l.m = M at *
      generalize l.cs = cs at *
      have z1 : ¬ ((gn : Int) < 0) := by omega
      have z2 : ¬ (G ≤ (gn : Int)) := by omega
      have z3 : ¬ ((mn : Int) < 0) := by omega
      have z4 : ¬ (M ≤ (mn : Int)) := by omega
      clear h hok hk hW0 hn1 hn2 g0 m0 gl ml
      go_enter Tryz.func35, Tryz.ntmps35
      go_wp2_with (first
        | (rw [← HW0.out])
        | (refine wpList_load_row rfl 60 (.tmp 3) rfl (w.heap.size) rfl 60 cs.toArray (0, 0) _ x0.out Tryz.underlying60 rfl HIN.out ?_)
        | (refine wpList_load_row rfl 60 (.tmp 3) rfl (w.heap.size) rfl 60 cs.toArray (0, 0) _ x1.out Tryz.underlying60 rfl HIN.out ?_)
        | (refine wpList_load_row rfl 60 (.tmp 3) rfl (w.heap.size) rfl 60 cs.toArray (0, 0) _ x3.out Tryz.underlying60 rfl HIN.out ?_)
        | (go_at_call 37; (with_reducible refine (HCK.out _ b0.out).mono ?_); rintro e w1 ⟨rfl, hb⟩; have D1 := Lib.hid (bel_on b0.out hb); have G1 := Lib.hid hb; have x1 := Lib.hid (HX.out _ hb); obtain ⟨c0, c1, -⟩ := HC.out _ hb; clear hb)
        | (go_at_call 91; (with_reducible refine (HP0.out _ D1.out).mono ?_); rintro e w2 ⟨rfl, hb⟩; have D2 := Lib.hid (bel_on D1.out hb); have G2 := Lib.hid (bel_on G1.out hb); clear hb)
        | (go_at_call 19; (with_reducible refine (HW1_.out _ D2.out).mono ?_); rintro e w3 ⟨⟨A1, c1', rfl, ho⟩, hb⟩; have D3 := Lib.hid (bel_on D2.out hb); have G3 := Lib.hid (bel_on G2.out hb); have O3 := Lib.hid (ho.le_ D2.out.size); have x3 := Lib.hid (HX.out _ G3.out); clear hb ho)
        | (go_at_call 91; (with_reducible refine (HP1.out _ D3.out).mono ?_); rintro e w4 ⟨rfl, hb⟩; have D4 := Lib.hid (bel_on D3.out hb); have O4 := Lib.hid (O3.out.below hb); clear hb)
        | (go_at_call 19; (with_reducible refine (HW2_.out _ D4.out).mono ?_); rintro e w5 ⟨⟨A2, c2', rfl, ho⟩, hb⟩; have D5 := Lib.hid (bel_on D4.out hb); have O5 := Lib.hid (O4.out.below hb); have Q5 := Lib.hid (ho.le_ D4.out.size); clear hb ho)
        | (at_builtin; refine wpList_append_bytes _ rfl (.tmp 52) (.tmp 53) rfl w.heap.size A1 n1 c1' o1 HL1.out rfl O5.out A2 n2 c2' o2 HL2.out rfl ((Q5.out.br (by rw [HL2.out]; omega)).src HL2.out) (by omega) D5.out.size ?_; intro A6 c6 w6 ho6 hb6 hg6; have O6 := Lib.hid ho6; have D6 := Lib.hid (D5.out.trans hb6); clear ho6 hb6 hg6))
      all_goals first | omega | (go_ret2; exact ⟨HF.out _ _ _ HR.out ⟨A6, c6, rfl, O6.out⟩, D6.out⟩)
    · have HR : Hid (l.wordR g m = ([], 2)) := by
        unfold Hid LevV.wordR
        rw [if_neg (by rw [hok]; simp), if_pos (by omega)]
      generalize l.wordR g m = r at HR ⊢
      generalize l.g = G at *
      generalize l.m = M at *
      generalize l.cs = cs at *
      clear h hok hk hW0
      go_enter Tryz.func35, Tryz.ntmps35
      go_wp2_with (first
        | (rw [← HW0.out])
        | (refine wpList_load_row rfl 60 (.tmp 3) rfl (w.heap.size) rfl 60 cs.toArray (0, 0) _ x0.out Tryz.underlying60 rfl HIN.out ?_)
        | (go_at_call 37; (with_reducible refine (HCK.out _ b0.out).mono ?_); rintro e w1 ⟨rfl, hb⟩; have D1 := Lib.hid (bel_on b0.out hb); have G1 := Lib.hid hb; have x1 := Lib.hid (HX.out _ hb); obtain ⟨c0, c1, -⟩ := HC.out _ hb; clear hb))
      all_goals first | omega | (go_ret2; exact ⟨wordErr_nil _ _ HR.out, D1.out⟩)

set_option maxHeartbeats 4000000 in
set_option maxRecDepth 1000000 in
theorem refLevelWord_any (l : LevV) (g m : Int) (w : World) (h : LevOK w l) (hg1 : -9223372036854775808 ≤ g) (hg2 : g ≤ 9223372036854775807) (hm1 : -9223372036854775808 ≤ m) (hm2 : m ≤ 9223372036854775807) :
    Calls Tryz.prog 36 #[.agg l.cs.toArray, .int .i64 g, .int .i64 m] w fun e w' => WordErr (l.wordR g m) e w' ∧ Below w.heap.size w w' := by
  have hk := h.k16
  obtain ⟨W0, hW0⟩ : ∃ W : World, W = w.alloc (.cells l.cs.toArray 60) := ⟨_, rfl⟩
  have b0 : Hid (Below w.heap.size w W0) := by unfold Hid; rw [hW0]; exact alloc_below _ _
  have x0 : Hid (Blk W0 w.heap.size 60 l.cs.toArray) := by unfold Hid; rw [hW0]; exact Blk.new w _ _
  have HW0 := Lib.hid hW0
  have HIN := Lib.hid (infoV (LevV.len hk))
  have HX : Hid (∀ W, Below W0.heap.size W0 W → Blk W w.heap.size 60 l.cs.toArray) := fun W hW => x0.out.below' hW
  have HC : Hid (∀ W, Below W0.heap.size W0 W → W.cell? ⟨w.heap.size, 0, none⟩ = some (.int .i64 l.g) ∧ W.cell? ⟨w.heap.size, 1, none⟩ = some (.int .i64 l.m) ∧ W.cell? ⟨w.heap.size, 2, none⟩ = some (.int .i64 l.b)) := fun W hW => by
    obtain ⟨c0, c1, c2, -, -⟩ := LevV.cells hk (x0.out.below' hW)
    exact ⟨c0, c1, c2⟩
  have HCK : Hid (∀ W, Below w.heap.size w W → Calls Tryz.prog 64 #[.agg l.cs.toArray] W fun e w' => e = .returned (.bool l.ok) ∧ Below W.heap.size W w') := fun W hW => refValidLevels_any l W (h.below hW)
  cases hok : l.ok with
  | false =>
    rw [hok] at HCK
    have HR : Hid (l.wordR g m = ([], 70)) := by unfold Hid LevV.wordR; rw [if_pos hok]
    generalize l.wordR g m = r at HR ⊢
    generalize l.cs = cs at *
    clear h hok hk hW0
    go_enter Tryz.func36, Tryz.ntmps36
    go_wp2_with (first
      | (rw [← HW0.out])
      | (refine wpList_load_row rfl 60 (.tmp 3) rfl (w.heap.size) rfl 60 cs.toArray (0, 0) _ x0.out Tryz.underlying60 rfl HIN.out ?_)
      | (go_at_call 64; (with_reducible refine (HCK.out _ b0.out).mono ?_); rintro e w1 ⟨rfl, hb⟩; have D1 := Lib.hid (bel_on b0.out hb); have G1 := Lib.hid hb; have x1 := Lib.hid (HX.out _ hb); obtain ⟨c0, c1, -⟩ := HC.out _ hb; clear hb))
    go_ret2
    exact ⟨wordErr_nil _ _ HR.out, D1.out⟩
  | true =>
    rw [hok] at HCK
    obtain ⟨q1, q2, q3, q4, q5, q6⟩ := LevV.bounds hok
    by_cases hin : 0 ≤ g ∧ g < l.g ∧ 0 ≤ m ∧ m < l.m
    · obtain ⟨g0, gl, m0, ml⟩ := hin
      obtain ⟨gn, rfl⟩ : ∃ n : Nat, g = (n : Int) := ⟨g.toNat, by omega⟩
      obtain ⟨mn, rfl⟩ : ∃ n : Nat, m = (n : Int) := ⟨m.toNat, by omega⟩
      have HR : Hid (l.wordR (gn : Int) (mn : Int) = ((l.part 0).word gn ++ (l.part (gn + 1)).word mn, 0)) := by
        unfold Hid LevV.wordR
        rw [if_neg (by rw [hok]; simp), if_neg (by omega), Int.toNat_natCast, Int.toNat_natCast]
      obtain ⟨n1, hn1⟩ : ∃ n, (l.part 0).n = n := ⟨_, rfl⟩
      obtain ⟨n2, hn2⟩ : ∃ n, (l.part (gn + 1)).n = n := ⟨_, rfl⟩
      have hb1 : n1 ≤ 960 := by rw [← hn1]; exact (StV.n_le (LevV.ok_part hok 0)).2.1
      have hb2 : n2 ≤ 960 := by rw [← hn2]; exact (StV.n_le (LevV.ok_part hok (gn + 1))).2.1
      have HL1 : Hid (((l.part 0).word gn).length = n1) := by unfold Hid; rw [← hn1]; exact StV.word_len _ _
      have HL2 : Hid (((l.part (gn + 1)).word mn).length = n2) := by unfold Hid; rw [← hn2]; exact StV.word_len _ _
      have HW1_ : Hid (∀ W, Below w.heap.size w W → Calls Tryz.prog 68 #[.agg (l.part 0).cs.toArray, .int .i64 (gn : Int)] W fun e w' => (∃ A c, e = .returned (.slice A n1 c) ∧ OB W.heap.size w' A c ((l.part 0).word gn)) ∧ Below W.heap.size W w') := fun W hW => by
        refine (StepsWord_at _ _ W ((h.part 0).below hW) (LevV.ok_part hok 0) (by show (gn : Int) < l.g; omega)).mono ?_
        rintro e w' ⟨⟨g, hg, he, ho⟩, hb⟩
        rw [hn1] at he
        exact ⟨⟨some ⟨g, 0, none⟩, n1, he, Blk.ob ho hg HL1.out rfl (by omega)⟩, hb⟩
      have HW2_ : Hid (∀ W, Below w.heap.size w W → Calls Tryz.prog 68 #[.agg (l.part (gn + 1)).cs.toArray, .int .i64 (mn : Int)] W fun e w' => (∃ A c, e = .returned (.slice A n2 c) ∧ OB W.heap.size w' A c ((l.part (gn + 1)).word mn)) ∧ Below W.heap.size W w') := fun W hW => by
        refine (StepsWord_at _ _ W ((h.part (gn + 1)).below hW) (LevV.ok_part hok _) (by show (mn : Int) < l.m; omega)).mono ?_
        rintro e w' ⟨⟨g, hg, he, ho⟩, hb⟩
        rw [hn2] at he
        exact ⟨⟨some ⟨g, 0, none⟩, n2, he, Blk.ob ho hg HL2.out rfl (by omega)⟩, hb⟩
      have HP0 : Hid (∀ W, Below w.heap.size w W → Calls Tryz.prog 92 #[.agg l.cs.toArray] W fun e w' => e = .returned (.agg (l.part 0).cs.toArray) ∧ Below W.heap.size W w') := fun W hW => GroupsOf_any l W (h.below hW)
      have HP1 : Hid (∀ W, Below w.heap.size w W → Calls Tryz.prog 65 #[.agg l.cs.toArray, .int .i64 (gn : Int)] W fun e w' => e = .returned (.agg (l.part (gn + 1)).cs.toArray) ∧ Below W.heap.size W w') := fun W hW => MembersOf_any l gn W (h.below hW) (by omega)
      have HXR : Hid (∀ W, Below W0.heap.size W0 W → W.rangeAt w.heap.size 0 l.cs) := fun W hW => (x0.out.below' hW).range
      have HL21 : Hid (l.cs.length = 21) := LevV.len hk
      have mixed : Tryz.prog.follows Departure.mixedOrders = true := by kernel_rfl
      have HF : Hid (∀ r e w', r = ((l.part 0).word gn ++ (l.part (gn + 1)).word mn, (0 : Int)) → (∃ A c, e = .returned (.tuple #[.slice A (n1 + n2) c, .int .i64 0]) ∧ OB w.heap.size w' A c ((l.part 0).word gn ++ (l.part (gn + 1)).word mn)) → WordErr r e w') := fun r e w' hr ⟨A, c, he, hB⟩ => by
        subst hr
        have hl : ((l.part 0).word gn ++ (l.part (gn + 1)).word mn).length = n1 + n2 := by rw [List.length_append, HL1.out, HL2.out]
        exact ⟨A, c, by rw [he, hl], hB.br (by omega)⟩
      generalize l.wordR (gn : Int) (mn : Int) = r at HR ⊢
      generalize (l.part 0).word gn = o1 at *
      generalize (l.part (gn + 1)).word mn = o2 at *
      generalize (l.part 0).cs = p0 at *
      generalize (l.part (gn + 1)).cs = p1 at *
      generalize l.g = G at *
      generalize l.m = M at *
      generalize l.cs = cs at *
      have z1 : ¬ ((gn : Int) < 0) := by omega
      have z2 : ¬ (G ≤ (gn : Int)) := by omega
      have z3 : ¬ ((mn : Int) < 0) := by omega
      have z4 : ¬ (M ≤ (mn : Int)) := by omega
      clear h hok hk hW0 hn1 hn2 g0 m0 gl ml
      go_enter Tryz.func36, Tryz.ntmps36
      go_wp2_with (first
        | (rw [← HW0.out])
        | (refine wpList_load_row rfl 60 (.tmp 3) rfl (w.heap.size) rfl 60 cs.toArray (0, 0) _ x0.out Tryz.underlying60 rfl HIN.out ?_)
        | (go_at_call 64; (with_reducible refine (HCK.out _ b0.out).mono ?_); rintro e w1 ⟨rfl, hb⟩; have D1 := Lib.hid (bel_on b0.out hb); have G1 := Lib.hid hb; have x1 := Lib.hid (HX.out _ hb); obtain ⟨c0, c1, -⟩ := HC.out _ hb; clear hb))
      refine wp_region_noPanic ?_
      obtain ⟨v0, hv0⟩ : ∃ W, W = w1.drew := ⟨_, rfl⟩
      have g0 : Below W0.heap.size W0 v0 := by rw [hv0]; exact G1.out.drew
      refine wp_region_held_drew (S := fun W => W.rangeAt w.heap.size 0 cs) (by kernel_rfl) (by rw [← hv0]; exact HXR.out _ g0) (fun hS => ?_)
      rw [← hv0] at hS ⊢
      clear hv0
      refine hd_load 0 w.heap.size 0 cs 60 (.tmp 3) rfl rfl rfl (by kernel_rfl) (by kernel_rfl) (by kernel_rfl) (fun _ _ _ h => h) rfl (fun w hw => hw) Tryz.underlying60 rfl (infoV' HL21.out) hS ?_
      refine hd_take 2 (.int .i64 (gn : Int)) rfl rfl (by kernel_rfl) (by kernel_rfl) (by kernel_rfl) (fun _ _ _ h => h) (fun w hw => by go_simp) hS ?_
      refine hd_load 4 w.heap.size 0 cs 60 (.tmp 3) rfl rfl rfl (by kernel_rfl) (by kernel_rfl) (by kernel_rfl) (fun _ _ _ h => h) rfl (fun w hw => hw) Tryz.underlying60 rfl (infoV' HL21.out) hS ?_
      refine hd_take 5 (.int .i64 (gn : Int)) rfl rfl (by kernel_rfl) (by kernel_rfl) (by kernel_rfl) (fun _ _ _ h => h) (fun w hw => by go_simp) hS ?_
      refine hd_take 7 (.int .i64 (mn : Int)) rfl rfl (by kernel_rfl) (by kernel_rfl) (by kernel_rfl) (fun _ _ _ h => h) (fun w hw => by go_simp) hS ?_
      simp only [List.getElem_toArray, List.getElem_cons_succ, List.getElem_cons_zero, Act.put, List.setIfInBounds_toArray, List.set_cons_zero, List.set_cons_succ]
      refine hd_calls 1 92 #[.agg cs.toArray] rfl rfl (by kernel_rfl) (by go_simp) ((HP0.out _ (bel_on b0.out g0)).mono ?_)
      rintro e v1 ⟨rfl, hb⟩
      have g1 := bel_on g0 hb
      clear hb
      have hS1 := HXR.out _ g1
      refine ⟨_, rfl, hS1, ?_⟩
      simp only [List.getElem_toArray, List.getElem_cons_succ, List.getElem_cons_zero, Act.put, List.setIfInBounds_toArray, List.set_cons_zero, List.set_cons_succ]
      refine hd_calls 3 68 #[.agg p0.toArray, .int .i64 (gn : Int)] rfl rfl (by kernel_rfl) (by go_simp) ((HW1_.out _ (bel_on b0.out g1)).mono ?_)
      rintro e v2 ⟨⟨A1, c1', rfl, ho⟩, hb⟩
      have g2 := bel_on g1 hb
      have k2 := ho.le_ g1.size
      clear hb ho
      have hS2 := HXR.out _ g2
      refine ⟨_, rfl, hS2, ?_⟩
      simp only [List.getElem_toArray, List.getElem_cons_succ, List.getElem_cons_zero, Act.put, List.setIfInBounds_toArray, List.set_cons_zero, List.set_cons_succ]
      refine hd_calls 6 65 #[.agg cs.toArray, .int .i64 (gn : Int)] rfl rfl (by kernel_rfl) (by go_simp) ((HP1.out _ (bel_on b0.out g2)).mono ?_)
      rintro e v3 ⟨rfl, hb⟩
      have g3 := bel_on g2 hb
      have k3 := k2.below hb
      clear hb
      have hS3 := HXR.out _ g3
      refine ⟨_, rfl, hS3, ?_⟩
      simp only [List.getElem_toArray, List.getElem_cons_succ, List.getElem_cons_zero, Act.put, List.setIfInBounds_toArray, List.set_cons_zero, List.set_cons_succ]
      refine hd_calls 8 68 #[.agg p1.toArray, .int .i64 (mn : Int)] rfl rfl (by kernel_rfl) (by go_simp) ((HW2_.out _ (bel_on b0.out g3)).mono ?_)
      rintro e v4 ⟨⟨A2, c2', rfl, ho⟩, hb⟩
      have g4 := bel_on g3 hb
      have k4 := k3.below hb
      have q4 := ho.le_ g3.size
      clear hb ho
      have hS4 := HXR.out _ g4
      refine ⟨_, rfl, hS4, ?_⟩
      simp only [List.getElem_toArray, List.getElem_cons_succ, List.getElem_cons_zero, Act.put, List.setIfInBounds_toArray, List.set_cons_zero, List.set_cons_succ]
      refine hd_appendB 9 (.tmp 32) (.tmp 37) rfl rfl rfl (by kernel_rfl) W0.heap.size A1 n1 c1' o1 HL1.out rfl k4 A2 n2 c2' o2 HL2.out rfl ((q4.br (by rw [HL2.out]; omega)).src HL2.out) (by omega) g4.size ?_
      intro A6 c6 w6 ho6 hb6
      have g6 := bel_on b0.out (g4.trans hb6)
      have O6 := Lib.hid (ho6.le_ b0.out.size)
      have hS6 := HXR.out _ (g4.trans hb6)
      refine ⟨hS6, ?_⟩
      simp only [List.getElem_toArray, List.getElem_cons_succ, List.getElem_cons_zero, Act.put, List.setIfInBounds_toArray, List.set_cons_zero, List.set_cons_succ]
      refine hd_take 10 (.slice A6 (n1 + n2) c6) rfl rfl (by kernel_rfl) (by kernel_rfl) (by kernel_rfl) (fun _ _ _ h => h) (fun w hw => by go_simp) hS6 ?_
      refine hd_take 11 (.int .i64 0) rfl rfl (by kernel_rfl) (by kernel_rfl) (by kernel_rfl) (fun _ _ _ h => h) (fun w hw => by go_simp) hS6 ?_
      refine wpAnyH_done (by kernel_rfl) (NoPanic.normal ?_) _
      simp only [List.getElem_toArray, List.getElem_cons_succ, List.getElem_cons_zero, Act.put, List.setIfInBounds_toArray, List.set_cons_zero, List.set_cons_succ]
      go_wp2_with fail
      go_ret2
      exact ⟨HF.out _ _ _ HR.out ⟨A6, c6, rfl, O6.out⟩, g6⟩
    · have HR : Hid (l.wordR g m = ([], 2)) := by
        unfold Hid LevV.wordR
        rw [if_neg (by rw [hok]; simp), if_pos (by omega)]
      generalize l.wordR g m = r at HR ⊢
      generalize l.g = G at *
      generalize l.m = M at *
      generalize l.cs = cs at *
      clear h hok hk hW0
      go_enter Tryz.func36, Tryz.ntmps36
      go_wp2_with (first
        | (rw [← HW0.out])
        | (refine wpList_load_row rfl 60 (.tmp 3) rfl (w.heap.size) rfl 60 cs.toArray (0, 0) _ x0.out Tryz.underlying60 rfl HIN.out ?_)
        | (go_at_call 64; (with_reducible refine (HCK.out _ b0.out).mono ?_); rintro e w1 ⟨rfl, hb⟩; have D1 := Lib.hid (bel_on b0.out hb); have G1 := Lib.hid hb; have x1 := Lib.hid (HX.out _ hb); obtain ⟨c0, c1, -⟩ := HC.out _ hb; clear hb))
      all_goals first | omega | (go_ret2; exact ⟨wordErr_nil _ _ HR.out, D1.out⟩)
end Go.Proofs.YtenpkmgbaajeeaaGreat

/- Lists of the accused: pairs of ints, read, owned, appended, compared. -/
namespace Go.Proofs.YtenpkmgbaajeeaaGreat
open Go.RowKit
set_option linter.unusedVariables false
set_option linter.unusedSimpArgs false

abbrev Ent := Int × Int
def cellsX (x : Ent) : List Value := [.int .i64 x.1, .int .i64 x.2]
def cellsE (es : List Ent) : List Value := es.flatMap cellsX
theorem cellsE_length : ∀ es : List Ent, (cellsE es).length = es.length * 2
  | [] => rfl
  | x :: es => by
    have := cellsE_length es
    unfold cellsE at this ⊢
    rw [List.flatMap_cons, List.length_append, this, List.length_cons]
    simp only [cellsX, List.length_cons, List.length_nil]
    omega
theorem cellsE_append (a b : List Ent) : cellsE (a ++ b) = cellsE a ++ cellsE b := by simp [cellsE]
theorem cells_oneE (es : List Ent) : ∀ v ∈ cellsE es, v.oneCell' = true := fun v hv => by
  obtain ⟨x, _, hv⟩ := List.mem_flatMap.1 hv
  rcases List.mem_cons.1 hv with rfl | hv
  · rfl
  · rw [List.mem_singleton.1 hv]; rfl
theorem cellsE_get : ∀ (es : List Ent) (i : Nat) (h : i < es.length), (cellsE es)[i * 2]? = some (.int .i64 es[i].1) ∧ (cellsE es)[i * 2 + 1]? = some (.int .i64 es[i].2)
  | [], i, h => absurd h (by simp)
  | x :: es, 0, _ => by constructor <;> rfl
  | x :: es, i + 1, h => by
    have := cellsE_get es i (by simpa using h)
    have e : cellsE (x :: es) = Value.int .i64 x.1 :: Value.int .i64 x.2 :: cellsE es := rfl
    rw [e, show (i + 1) * 2 = i * 2 + 1 + 1 from by omega, List.getElem?_cons_succ, List.getElem?_cons_succ]
    refine ⟨this.1, ?_⟩
    rw [List.getElem?_cons_succ, List.getElem?_cons_succ]
    exact this.2
/-- A slice that reads as entries. -/
def ER (w : World) (A : Option Addr) (c : Nat) (es : List Ent) : Prop := Rd w 2 A c es.length (cellsE es)
section
variable {w w' : World} {c : Nat} {A : Option Addr} {es : List Ent}
theorem ER.below (h : ER w A c es) (hb : Below w.heap.size w w') : ER w' A c es := Rd.below h hb
theorem ER.len (h : ER w A c es) : es.length ≤ 140737488351232 := Rd.len h
theorem ER.at_ (h : ER w A c es) {i : Nat} (hi : i < es.length) : ∃ b off, A = some ⟨b, off, none⟩ ∧ b < w.heap.size ∧ w.cell? ⟨b, off + i * 2, none⟩ = some (.int .i64 es[i].1) ∧ w.cell? ⟨b, off + i * 2 + 1, none⟩ = some (.int .i64 es[i].2) := by
  obtain ⟨b, off, e, hb, hc⟩ := h.2 (by omega)
  have hg := cellsE_get es i hi
  exact ⟨b, off, e, hb, hc _ _ hg.1, by have := hc _ _ hg.2; rwa [← Nat.add_assoc] at this⟩
end
/-- Entries that the call owns. -/
def OE (B : Nat) (w : World) (A : Option Addr) (c : Nat) (es : List Ent) : Prop := w.ownsRow B 108 2 (.slice A es.length c) es.length (cellsE es)
theorem OE.below {B : Nat} {w w' : World} {A : Option Addr} {c : Nat} {es : List Ent} (h : OE B w A c es) (hb : Below w.heap.size w w') : OE B w' A c es := ownsRow_below h hb
theorem OE.er {B : Nat} {w : World} {A : Option Addr} {c : Nat} {es : List Ent} (h : OE B w A c es) (hl : es.length ≤ 140737488351232) : ER w A c es := Rd.of_own h hl
theorem ent_info3 : (Tryz.prog.info? 108).map (fun i => (i.zero, i.size, i.bytes)) = some (some (.agg (cellsX (0, 0)).toArray), 2, 16) := by kernel_rfl
theorem OE.nil (B : Nat) (w : World) : OE B w none 0 [] := World.ownsRow_nil w B _ 2
theorem OE.le_ {B B' : Nat} {w : World} {A : Option Addr} {c : Nat} {es : List Ent} (h : OE B w A c es) (hB : B' ≤ B) : OE B' w A c es :=
  ⟨h.1, h.2.elim Or.inl (fun ⟨g, cap, cur, hv, hg, r⟩ => Or.inr ⟨g, cap, cur, hv, Nat.le_trans hB hg, r⟩)⟩
theorem OE.lit (B : Nat) (w : World) (l : List Ent) (hB : B ≤ w.heap.size) (hl : l.length ≤ 1000000) {n : Nat} (hn : l.length = n) : OE B (w.alloc (.cells (cellsE l).toArray 108)) (some ⟨w.heap.size, 0, none⟩) n l := by
  subst hn
  exact World.ownsRow_lit (e := 108) (size := 2) w (cellsE l).toArray l.length hB (by simp only [maxLen]; omega) (by rw [List.size_toArray, cellsE_length])
theorem ER.src {w : World} {A : Option Addr} {c : Nat} {l : List Ent} (h : ER w A c l) {n : Nat} (hn : l.length = n) : Src w 2 A n (cellsE l) := by subst hn; exact Rd.src h
theorem src_litE {w : World} (l : List Ent) {n : Nat} (hn : l.length = n) : Src (w.alloc (.cells (cellsE l).toArray 108)) 2 (some ⟨w.heap.size, 0, none⟩) n (cellsE l) := by
  subst hn
  refine ⟨cellsE_length l, .inr ⟨_, rfl, fun j u hu => ?_⟩⟩
  rw [Addr.add_lit, Nat.zero_add]
  simpa using hu

theorem wpList_append_ents (w : World) {ops : Array Oper} {rest : List Oper} {o : Oper} {a : Act} {Q : Exit → Act → World → Prop} (hgd : o.guard = none) (s x : Operand)
    (ho : o.op = .call { callee := .builtin .append, args := #[s, x], argTypes := #[65, 65] })
    (B : Nat) (A : Option Addr) (n c : Nat) (l : List Ent) (hn : l.length = n) (hs : a.eval s = .slice A n c) (hown : OE B w A c l)
    (X : Option Addr) (m d : Nat) (news : List Ent) (hm : news.length = m) (hx : a.eval x = .slice X m d) (hsrc : Src w 2 X m (cellsE news))
    (hlen : n + m ≤ 1000000) (hB : B ≤ w.heap.size)
    (h : ∀ A' c' w', OE B w' A' c' (l ++ news) → Below B w w' → w.grownBy w' (Value.ownBlock (.slice A n c)) → wpList Tryz.prog ops Q rest (a.put o.dst (.slice A' (n + m) c')) w') : wpList Tryz.prog ops Q (o :: rest) a w := by
  obtain ⟨i0, hi, hz0, hz1, hz2⟩ := info_parts ent_info3
  subst hn hm
  refine wpList_append_src w hgd s x 65 ho B 108 i0 (.agg (cellsX (0, 0)).toArray) 2 16 Tryz.underlying65 hi hz0 hz1 hz2 rfl (by omega) A l.length c (cellsE l) hs hown X news.length d (cellsE news) hx hsrc (cells_oneE _)
    (by simp only [maxLen]; omega) (by omega) hB ?_
  intro A' c' w' h1 h2 h3
  refine h A' c' w' ?_ (grown_below (Below.refl _ _) hown h2 hB (Nat.le_refl _)) h2
  unfold OE
  rw [cellsE_append, List.length_append]
  exact h1
set_option maxHeartbeats 2000000 in
set_option maxRecDepth 100000 in
theorem SameAccused_any (es : List Ent) (A : Option Addr) (c : Nat) (X : Option Addr) (d : Nat) (w : World) {n : Nat} (hn : es.length = n) (h : ER w A c es) (h' : ER w X d es) :
    Calls Tryz.prog 41 #[.slice A n c, .slice X n d] w fun e w' => e = .returned (.bool true) ∧ Below w.heap.size w w' := by
  have hnl : (n : Int) ≤ 140737488351232 := by have := h.len; omega
  have HN := Lib.hid hn
  have H := Lib.hid h
  have H' := Lib.hid h'
  clear hn h h'
  go_enter Tryz.func41, Tryz.ntmps41
  go_wp2_with fail
  go_loopw [5] (fun vi wr => ∃ i : Nat, i ≤ n ∧ vi = .int .i64 (i : Int) ∧ Below w.heap.size w wr) (fun vi _ => n - (intOf vi).toNat)
  case atStart => exact ⟨0, by omega, rfl, Below.refl _ _⟩
  case round =>
    obtain ⟨i, hi, rfl, hbel⟩ := hrel
    by_cases hlt : i < n
    · have hii : (i : Int) < n := by omega
      have hi0 : (0 : Int) ≤ i := by omega
      obtain ⟨b, off, rfl, hb, c0, c1⟩ := (H.out.below hbel).at_ (i := i) (by have := HN.out; omega)
      obtain ⟨b', off', rfl, hb', d0, d1⟩ := (H'.out.below hbel).at_ (i := i) (by have := HN.out; omega)
      obtain ⟨x, hx⟩ : ∃ x, es[i]'(by have := HN.out; omega) = x := ⟨_, rfl⟩
      rw [hx] at c0 c1 d0 d1
      obtain ⟨x0, x1⟩ := x
      simp only at c0 c1 d0 d1
      clear hx
      go_wp2_with fail
      go_quiet (fail)
      go_wp2_with fail
      go_roundw
      case rel => exact ⟨i + 1, by omega, by go_num, below_drewN hbel _⟩
      case measure => simp [intOf]; omega
    · obtain rfl : i = n := by omega
      have hii : (i : Int) ≤ i := Int.le_refl _
      go_wp2_with fail
      go_ret
      exact ⟨rfl, hbel⟩
end Go.Proofs.YtenpkmgbaajeeaaGreat

/- The accused of a code of two levels, in plain words; halves of a copy. -/
namespace Go.Proofs.YtenpkmgbaajeeaaGreat
open Go.RowKit
set_option linter.unusedVariables false
set_option linter.unusedSimpArgs false

/-- Where a cut 's[n:]' of bytes leads. -/
def dropP (A : Option Addr) (n c : Nat) : Option Addr := if c = n then A else A.map fun x => x.add n
theorem slice_bytes_from (W : World) (A : Option Addr) (m c n : Nat) (h : n ≤ m) :
    (Instr.slice 30 (.slice A m c) (some (.int .i64 (n : Int))) none none).run Tryz.prog W = .ok (.slice (dropP A n c) (m - n) (c - n)) W := by
  have e : Tryz.prog.elem 30 = 5 := by kernel_rfl
  rw [run_slice_l (P := Tryz.prog) (w := W) 30 A m c (by rw [e]; exact Tryz.underlying30) .i64 n (by omega) (by omega), e, Tryz.sizeOf5 W]
  simp [Result.andThen, sliced, dropP]
theorem BR.drop {w : World} {A : Option Addr} {c : Nat} {l : List UInt8} (h : BR w A c l) (n : Nat) (hn : n ≤ l.length) : BR w (dropP A n c) (c - n) (l.drop n) := by
  have h1 := Rd.le h
  have h2 := Rd.cap h
  have h3 := Rd.len h
  refine ⟨⟨by rw [cellsB_length, Nat.mul_one], by rw [List.length_drop]; omega, by omega, by rw [List.length_drop]; omega⟩, fun hne => ?_⟩
  rw [List.length_drop] at hne
  obtain ⟨b, off, e, hb, hc⟩ := h.2 (by omega)
  refine ⟨b, off + n, by rw [dropP, if_neg (by omega), e]; simp [Addr.add], hb, fun j v hv => ?_⟩
  rw [Nat.add_assoc]
  refine hc (n + j) v ?_
  rw [← hv]
  simp [cellsB, List.getElem?_drop]

theorem slice_bytes_to (W : World) (A : Option Addr) (m c n : Nat) (h : n ≤ c) :
    (Instr.slice 30 (.slice A m c) none (some (.int .i64 (n : Int))) none).run Tryz.prog W = .ok (.slice A n c) W := by
  have e : Tryz.prog.elem 30 = 5 := by kernel_rfl
  rw [run_slice_h (P := Tryz.prog) (w := W) 30 A m c (by rw [e]; exact Tryz.underlying30) .i64 n (by omega) (by omega), e, Tryz.sizeOf5 W]
  simp [Result.andThen, sliced]
  intro _
  cases A <;> simp [Addr.add]
theorem BR.take {w : World} {A : Option Addr} {c : Nat} {l : List UInt8} (h : BR w A c l) (n : Nat) (hn : n ≤ l.length) : BR w A c (l.take n) := by
  have hle := Rd.le h
  have hl := Rd.len h
  have hcp := Rd.cap h
  refine ⟨⟨by rw [cellsB_length, Nat.mul_one], by rw [List.length_take]; omega, hcp, by rw [List.length_take]; omega⟩, fun hne => ?_⟩
  rw [List.length_take] at hne
  obtain ⟨b, off, e, hb, hc⟩ := h.2 (by omega)
  refine ⟨b, off, e, hb, fun j v hv => hc j v ?_⟩
  simp only [cellsB, List.map_take, List.getElem?_take] at hv
  split at hv
  · exact hv
  · cases hv
theorem copy_take {y : List UInt8} {a b : Nat} (h : copyB y (a + b) = true) : copyB (y.take a) a = true := by
  unfold copyB symB at *
  simp only [Bool.and_eq_true, decide_eq_true_eq, List.all_eq_true] at *
  exact ⟨by rw [List.length_take]; omega, fun x hx => h.2 x (List.mem_of_mem_take hx)⟩
theorem copy_drop {y : List UInt8} {a b : Nat} (h : copyB y (a + b) = true) : copyB (y.drop a) b = true := by
  unfold copyB symB at *
  simp only [Bool.and_eq_true, decide_eq_true_eq, List.all_eq_true] at *
  exact ⟨by rw [List.length_drop]; omega, fun x hx => h.2 x (List.mem_of_mem_drop hx)⟩
/-- Nobody named: the member -1. -/
def usS (us : List Int) : List Int := if us = [] then [-1] else us
def LevV.half (l : LevV) : Nat := (l.part 0).n
def LevV.tot (l : LevV) : Nat := (l.part 0).n + (l.part 1).n
def LevV.grs (l : LevV) (y : List UInt8) : List Int := (l.part 0).nms (y.take l.half)
def LevV.mem (l : LevV) (y : List UInt8) (g : Int) : List Int := usS ((l.part (g.toNat + 1)).nms (y.drop l.half))
def prs (g : Int) (us : List Int) : List Ent := us.map fun u => (g, u)
def accF (gs : List Int) (f : Int → List Int) (k : Nat) : List Ent := (gs.take k).flatMap fun g => prs g (f g)
theorem accF_zero (gs : List Int) (f : Int → List Int) : accF gs f 0 = [] := rfl
theorem accF_succ {gs : List Int} {f : Int → List Int} {k : Nat} (h : k < gs.length) : accF gs f (k + 1) = accF gs f k ++ prs (it gs k) (f (it gs k)) := by
  unfold accF
  rw [List.take_succ_eq_append_getElem h, List.flatMap_append, it_in h]
  simp
theorem accF_all (gs : List Int) (f : Int → List Int) {k : Nat} (h : gs.length ≤ k) : accF gs f k = gs.flatMap fun g => prs g (f g) := by unfold accF; rw [List.take_of_length_le h]
theorem accF_len (gs : List Int) (f : Int → List Int) (hf : ∀ g ∈ gs, (f g).length ≤ 16) : ∀ k, (accF gs f k).length ≤ 16 * k
  | 0 => by simp [accF]
  | k + 1 => by
    have ih := accF_len gs f hf k
    rcases Nat.lt_or_ge k gs.length with h | h
    · rw [accF_succ h, List.length_append]
      have := hf (it gs k) (by rw [it_in h]; exact List.getElem_mem h)
      simp [prs]; omega
    · have e : accF gs f (k + 1) = accF gs f k := by rw [accF_all gs f h, accF_all gs f (by omega)]
      rw [e]; omega
theorem prs_take {g : Int} {us : List Int} {k : Nat} (h : k < us.length) : prs g (us.take (k + 1)) = prs g (us.take k) ++ [(g, it us k)] := by
  unfold prs
  rw [List.take_succ_eq_append_getElem h, List.map_append, it_in h]
  rfl
def LevV.acc (l : LevV) (y : List UInt8) : List Ent := (l.grs y).flatMap fun g => prs g (l.mem y g)
def LevV.accR (l : LevV) (y : List UInt8) : List Ent × Int := if l.ok = false then ([], 70) else if copyB y l.tot = false then ([], 71) else (l.acc y, 0)
def PairsErr (r : List Ent × Int) (e : Ending) (w' : World) : Prop := ∃ A c, e = .returned (.tuple #[.slice A r.1.length c, .int .i64 r.2]) ∧ ER w' A c r.1
theorem pairsErr_nil (w : World) (x : Int) {r : List Ent × Int} (h : r = ([], x)) : PairsErr r (.returned (.tuple #[.slice none 0 0, .int .i64 x])) w := by
  subst h
  exact ⟨none, 0, rfl, (OE.nil 0 w).er (by simp)⟩
theorem usS_len {us : List Int} (h : us.length ≤ 16) : (usS us).length ≤ 16 := by unfold usS; split <;> simp_all
theorem LevV.grs_small {l : LevV} (hok : l.ok = true) (y : List UInt8) : (l.grs y).length ≤ 16 ∧ ∀ x ∈ l.grs y, 0 ≤ x ∧ x ≤ 16 := StV.nms_small (LevV.ok_part hok 0) _
theorem LevV.mem_small {l : LevV} (hok : l.ok = true) (y : List UInt8) (g : Int) : (l.mem y g).length ≤ 16 := usS_len (StV.nms_small (LevV.ok_part hok _) _).1
theorem LevV.tot_le {l : LevV} (hok : l.ok = true) : l.half ≤ 960 ∧ l.tot ≤ 1920 ∧ l.half ≤ l.tot ∧ ((l.half : Nat) : Int) = (l.g - 1) * l.b ∧ ((l.tot : Nat) : Int) = (l.g - 1) * l.b + (l.m - 1) * l.b := by
  obtain ⟨a1, a2, a3⟩ := StV.n_le (LevV.ok_part hok 0)
  obtain ⟨b1, b2, b3⟩ := StV.n_le (LevV.ok_part hok 1)
  have e0 : (l.part 0).u = l.g := rfl
  have e1 : (l.part 1).u = l.m := rfl
  have e2 : (l.part 0).b = l.b := rfl
  have e3 : (l.part 1).b = l.b := rfl
  rw [e0, e2] at a3
  rw [e1, e3] at b3
  unfold LevV.half LevV.tot
  exact ⟨a2, by omega, by omega, a3, by omega⟩
theorem LevV.part_n (l : LevV) (i : Nat) : (l.part (i + 1)).n = (l.part 1).n := by simp [StV.n, LevV.part]
theorem LevV.nmsR_groups {l : LevV} (hok : l.ok = true) {y : List UInt8} (hc : copyB y l.tot = true) : (l.part 0).nmsR (y.take l.half) = (l.grs y, 0) := by
  unfold StV.nmsR
  have h1 : copyB (y.take l.half) (l.part 0).n = true := copy_take (b := (l.part 1).n) hc
  rw [if_neg (by rw [LevV.ok_part hok 0]; simp), if_neg (by rw [h1]; simp)]
  rfl
theorem LevV.nmsR_members {l : LevV} (hok : l.ok = true) {y : List UInt8} (hc : copyB y l.tot = true) (i : Nat) : (l.part (i + 1)).nmsR (y.drop l.half) = ((l.part (i + 1)).nms (y.drop l.half), 0) := by
  unfold StV.nmsR
  have h1 : copyB (y.drop l.half) (l.part (i + 1)).n = true := by rw [l.part_n i]; exact copy_drop hc
  rw [if_neg (by rw [LevV.ok_part hok _]; simp), if_neg (by rw [h1]; simp)]
end Go.Proofs.YtenpkmgbaajeeaaGreat
