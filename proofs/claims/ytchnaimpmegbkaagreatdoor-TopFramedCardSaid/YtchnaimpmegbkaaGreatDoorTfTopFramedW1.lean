/-
  Lemmas and contracts, joined.
-/
import Derived.Test.YtchnaimpmegbkaaGreatDoorRows
import Derived.ProofKit
import Derived.OpenShut
import Derived.LaidMore
import Derived.Deep.MidRow
import Derived.Laws.ResultCell
import Derived.Test.YtchnaimpmegbkaaGreatDoorTfTj1
import Derived.Test.YtchnaimpmegbkaaGreatDoorTfTw1
import Derived.Test.YtchnaimpmegbkaaGreatDoorTfTr2
import Derived.Test.YtchnaimpmegbkaaGreatDoorTfTc1
import Derived.Test.YtchnaimpmegbkaaGreatDoorTfTl1
import Derived.Test.YtchnaimpmegbkaaGreatDoorTfTr1
import Derived.Test.YtchnaimpmegbkaaGreatDoorTfTp2
import Derived.Test.YtchnaimpmegbkaaGreatDoorTfTh1
set_option linter.unusedSimpArgs false
set_option linter.unusedVariables false
set_option linter.unnecessarySimpa false
/- What the rows' condition on the table of the tests says of the memory. -/
namespace Go.Proofs.YtchnaimpmegbkaaGreatDoor
open Go.ChangeShapes Go.WideShapes Go.ChangeAt Go.RowKit
set_option linter.unusedVariables false

theorem test_of_trod {W : World} {fuel : Nat} {cs : List Value} {k : Int} {b : UInt8} {r : List UInt8} {q : List MemPlace} {f0 : FuncId}
    (hone : ((List.range Tryz.prog.funcs.size).filter fun f => (Tryz.prog.funcs[f]?).any (·.name.toUTF8.data.toList == b :: r)) = [f0])
    (h : DataW.trod (funcToken Tryz.prog) Tryz.prog W 0 (fun _ => true) true fuel 84 cs = some (.agg [.lit (.int .u8 k), .held (b :: r)], q)) : cs = [.int .u8 k, .func (.func f0) #[] #[]] := by
  obtain ⟨y0, y1, n, hx, hl, h0, h1⟩ := trod_struct2 Tryz.underlying84 h
  dsimp only at h0 h1
  rw [show Tryz.prog.cellsOf 84 = 2 from by kernel_rfl] at hl
  have cu : Tryz.prog.cellsOf 5 = 1 := by kernel_rfl
  have cf : Tryz.prog.cellsOf 82 = 1 := by kernel_rfl
  rw [cu] at h0
  rw [cf] at h1
  obtain ⟨y1d, y1p⟩ := y1
  obtain ⟨x, e0, ey, _⟩ := DataW.trod_int Tryz.underlying5 h0
  subst ey
  simp only [Prod.mk.injEq, DataW.agg.injEq, List.cons.injEq, and_true, DataW.lit.injEq, Lit.int.injEq, true_and] at hx
  obtain ⟨⟨hk, hy⟩, _⟩ := hx
  subst hk hy
  match cs, hl with
  | [u, v], _ =>
    simp only [List.drop_zero, List.take_succ_cons, List.take_zero, List.drop_succ_cons, List.cons.injEq, and_true] at e0 h1
    have := func_of_trod (f0 := f0) Tryz.underlying82 hone h1
    rw [e0, this]
theorem gTests : Tryz.prog.globalNamed "headend/audit.tests" = some 0 := by kernel_rfl
theorem tTests : (Tryz.prog.globals[0]?).map (·.type) = some 85 := by kernel_rfl
/-- The row's condition gives the walks their table. -/
theorem of_laid {W : World} (h : laidMetH Tryz.prog [("headend/audit.tests", Rows.laid_headend_audit_tests)] W) : TestsIn W := by
  obtain ⟨g, t, cs, fuel, p, hg, ht, hv, hd⟩ := h.funcs (List.mem_singleton.2 rfl)
  obtain rfl := Option.some.inj (gTests.symm.trans hg)
  obtain rfl := Option.some.inj (tTests.symm.trans ht)
  have hd' : DataW.trod (funcToken Tryz.prog) Tryz.prog W 0 (fun _ => true) true fuel 85 cs.toList = some (.agg [.agg [.lit (.int .u8 1), .held [104, 101, 97, 100, 101, 110, 100, 47, 97, 117, 100, 105, 116, 46, 116, 101, 115, 116, 115, 36, 49]], .agg [.lit (.int .u8 2), .held [104, 101, 97, 100, 101, 110, 100, 47, 97, 117, 100, 105, 116, 46, 116, 101, 115, 116, 115, 36, 50]], .agg [.lit (.int .u8 4), .held [104, 101, 97, 100, 101, 110, 100, 47, 97, 117, 100, 105, 116, 46, 116, 101, 115, 116, 115, 36, 51]]], p) := hd
  obtain ⟨xs, m, _, hx, hl, hn, hel⟩ := DataW.trod_array Tryz.underlying85 hd'
  rw [show Tryz.prog.cellsOf 85 = 6 from by kernel_rfl] at hl
  have ct : Tryz.prog.cellsOf 84 = 2 := by kernel_rfl
  rw [ct] at hel
  have e0 := hel 0 (by omega)
  have e1 := hel 1 (by omega)
  have e2 := hel 2 (by omega)
  have hcs : cs.toList = [.int .u8 1, .func (.func 154) #[] #[], .int .u8 2, .func (.func 156) #[] #[], .int .u8 4, .func (.func 157) #[] #[]] := by
    match xs, hn with
    | [x0, x1, x2], _ =>
      obtain ⟨x0d, x0p⟩ := x0
      obtain ⟨x1d, x1p⟩ := x1
      obtain ⟨x2d, x2p⟩ := x2
      simp only [List.map_cons, List.map_nil, Prod.mk.injEq, DataW.agg.injEq, List.cons.injEq, and_true] at hx
      obtain ⟨⟨h0, h1, h2⟩, _⟩ := hx
      subst h0 h1 h2
      have t0 := test_of_trod (f0 := 154) (by kernel_rfl) e0
      have t1 := test_of_trod (f0 := 156) (by kernel_rfl) e1
      have t2 := test_of_trod (f0 := 157) (by kernel_rfl) e2
      match hcl : cs.toList, hl with
      | [c0, c1, c2, c3, c4, c5], _ =>
        rw [hcl] at t0 t1 t2
        simp only [Nat.zero_mul, Nat.one_mul, List.drop_zero, List.take_succ_cons, List.take_zero, List.drop_succ_cons, List.cons.injEq, and_true] at t0 t1 t2
        rw [t0.1, t0.2, t1.1, t1.2, t2.1, t2.2]
  intro i v hi
  have := World.var?_cell hg hv i
  rw [Nat.zero_add, this, ← Array.getElem?_toList, hcs]
  exact hi
end Go.Proofs.YtchnaimpmegbkaaGreatDoor

/- The closed facts of the row of TopFramed, in parts. -/
namespace Go.Proofs.YtchnaimpmegbkaaGreatDoor.topFramedFacts
theorem fa : (Rows.topFramedRow.inPlace == Tryz.pinned.checked.prog.inPlace 4) = true := by kernel_rfl
theorem fb : (Rows.topFramedRow.unfollowed == Tryz.pinned.checked.prog.unfollowed 4) = true := by kernel_rfl
theorem fc : (Rows.topFramedRow.recurses == Tryz.pinned.checked.prog.recurses 4) = true := by kernel_rfl
theorem fd : (Rows.topFramedRow.named == Tryz.pinned.checked.prog.varsNamed 4) = true := by kernel_rfl
theorem fe : (Rows.topFramedRow.plainKeys == Tryz.pinned.checked.prog.plainKeys) = true := by kernel_rfl
theorem ff : laidOutB Tryz.pinned.checked.prog = true := by kernel_rfl
theorem fg : mapsRowed Tryz.pinned.checked.prog = true := by kernel_rfl
theorem joined : joinedFacts Tryz.pinned.checked.prog 4 Tryz.f4 Rows.topFramedSpec Rows.topFramedRow = true := by
  unfold joinedFacts
  rw [fa, fb, fc, fd, fe, ff, fg]
  kernel_rfl
end Go.Proofs.YtchnaimpmegbkaaGreatDoor.topFramedFacts

/- The register in memory; two lists of keys that grow beside each other. -/
namespace Go.Proofs.YtchnaimpmegbkaaGreatDoor
open Go.RowKit
set_option linter.unusedVariables false
set_option linter.unusedSimpArgs false

/-- Where a list of keys lies after an append: where it lay, or in new memory. -/
theorem run_append_block (w : World) (ty : TypeId) (B : Nat) (v : Value) (n : Nat) (ks : List (List UInt8)) (hown : w.ownsRow B 23 16 v n (cellsK ks)) (a : Addr) (m c : Nat) (news : List (List UInt8)) (hl : (cellsK news).length = m * 16)
    (hnews : ∀ j u, (cellsK news)[j]? = some u → w.cell? (a.add j) = some u) (h0 : 0 < m) (hlen : (n + m) * 16 ≤ 140737488355328) {v' : Value} {w' : World} (hr : (Builtin.append_ #[35, 35] ty #[v, .slice (some a) m c]).run Tryz.prog w = .ok v' w') :
    v'.ownBlock = v.ownBlock ∨ v'.ownBlock = some w.heap.size := by
  obtain ⟨i0, hi, hz0, hz1, hz2⟩ := info_parts key_info3
  rcases hown.2 with ⟨rfl, rfl⟩ | ⟨g, cap, cur, rfl, hbg, hg, hnc, hcm, hcs, htake⟩
  · have := run_append_nil (P := Tryz.prog) w 35 ty 23 i0 _ Tryz.underlying35 hi hz0 a m c (cellsK news) (by rw [hz1]; exact hl) hnews h0 (by omega) (by rw [hz2]; omega)
    rw [this] at hr
    injection hr with e1 e2
    subst e1
    exact .inr rfl
  · by_cases hroom : n + m ≤ cap
    · have := run_append_room (P := Tryz.prog) w 35 ty 23 i0 Tryz.underlying35 hi g n cap cur hg a m c (cellsK news) (by rw [hz1]; exact hl) hnews (cells_oneK news) hroom (by rw [hz1, hl, hcs, ← Nat.add_mul]; exact Nat.mul_le_mul_right _ hroom)
      rw [this] at hr
      injection hr with e1 e2
      subst e1
      exact .inl rfl
    · have := run_append_grow (P := Tryz.prog) w 35 ty 23 i0 _ Tryz.underlying35 hi hz0 ⟨g, 0, none⟩ n cap (cellsK ks) (by rw [hz1]; exact hown.1) (hown.cells (g := g) rfl) a m c (cellsK news) (by rw [hz1]; exact hl) hnews (by omega) (by omega) (by rw [hz2]; exact growslice_fits (by omega) hlen)
      rw [this] at hr
      injection hr with e1 e2
      subst e1
      exact .inr rfl
/-- Two lists of keys in different memory. -/
def ApartK (A C : Option Addr) : Prop := ∀ a b, A = some a → C = some b → a.block ≠ b.block
theorem wpList_append_keys2 (w : World) {ops : Array Oper} {rest : List Oper} {o : Oper} {a : Act} {Q : Exit → Act → World → Prop} (hgd : o.guard = none) (s x : Operand)
    (ho : o.op = .call { callee := .builtin .append, args := #[s, x], argTypes := #[35, 35] })
    (B : Nat) (A : Option Addr) (n c : Nat) (ks : List (List UInt8)) (hn : ks.length = n) (hs : a.eval s = .slice A n c) (hown : OK16 B w A c ks)
    (C : Option Addr) (d : Nat) (ls : List (List UInt8)) (hC : OK16 B w C d ls) (hap : ApartK A C)
    (ad : Addr) (m e : Nat) (news : List (List UInt8)) (hm : news.length = m) (hnk : Keys16 news) (hx : a.eval x = .slice (some ad) m e) (hnews : ∀ j u, (cellsK news)[j]? = some u → w.cell? (ad.add j) = some u)
    (h0 : 0 < m) (hlen : (n + m) * 16 ≤ 140737488355328) (hB : B ≤ w.heap.size)
    (h : ∀ A' c' w', OK16 B w' A' c' (ks ++ news) → OK16 B w' C d ls → ApartK A' C → Below B w w' → w.grownBy w' (Value.ownBlock (.slice A n c)) → wpList Tryz.prog ops Q rest (a.put o.dst (.slice A' (n + m) c')) w') : wpList Tryz.prog ops Q (o :: rest) a w := by
  obtain ⟨i0, hi, hz0, hz1, hz2⟩ := info_parts key_info3
  subst hn hm
  refine wpList_plain hgd fun K hK => ?_
  have hl : (cellsK news).length = news.length * 16 := cellsK_length hnk
  obtain ⟨v', w', hr, h2, h3, h4⟩ := run_append_own (P := Tryz.prog) w B 35 o.type 23 i0 _ 16 16 Tryz.underlying35 hi hz0 hz1 hz2 rfl (by omega) (.slice A ks.length c) ks.length (cellsK ks) hown ad news.length e (cellsK news) hl hnews (cells_oneK news) (by simp only [maxLen]; omega) hlen hB
  have hb := run_append_block w o.type B (.slice A ks.length c) ks.length ks hown ad news.length e news hl hnews h0 hlen hr
  obtain ⟨A', c', rfl⟩ : ∃ A' c', v' = .slice A' (ks.length + news.length) c' := by
    rcases h2.2 with ⟨rfl, h⟩ | ⟨g, cap, cur, rfl, _⟩
    · exact ⟨none, 0, by rw [h]⟩
    · exact ⟨_, _, rfl⟩
  have hk : w'.ownsRow B 23 16 (.slice C ls.length d) ls.length (cellsK ls) := hC.kept h3 (by
    cases C with
    | none => exact .inl rfl
    | some b => cases A with
      | none => exact .inr (by simp [Value.ownBlock])
      | some a' => exact .inr (by simpa [Value.ownBlock] using (hap a' b rfl rfl).symm))
  unfold Oper.wp execOp
  simp only [ho, resolve, invoke, builtin, Sem.run_bind, Sem.run_pure, Result.andThen_ok, List.map_toArray, List.map_cons, List.map_nil, hs, hx, hr]
  refine hK _ _ (h A' c' w' ?_ hk ?_ (grown_below (Below.refl _ _) hown h3 hB (Nat.le_refl _)) h3)
  · unfold OK16
    rw [cellsK_append, List.length_append]
    exact h2
  · intro a' b ha hb'
    subst ha hb'
    have hbl := hC.lt b.block rfl
    rcases hb with hb | hb
    · cases A with
      | none => simp [Value.ownBlock] at hb
      | some a0 =>
        have : a'.block = a0.block := by simpa [Value.ownBlock] using hb
        rw [this]
        exact hap a0 b rfl rfl
    · have : a'.block = w.heap.size := by simpa [Value.ownBlock] using hb
      rw [this]
      omega

/-- The cells of a register. -/
def regC (cs : List Value) (A : Option Addr) (n c : Nat) (N : Option Addr) (a d : Nat) (C : Option Addr) (b e : Nat) (root : List UInt8) : List Value := cs ++ (.slice A n c :: .slice N a d :: .slice C b e :: cellsB root)
theorem regC_length {cs : List Value} {A : Option Addr} {n c : Nat} {N : Option Addr} {a d : Nat} {C : Option Addr} {b e : Nat} {root : List UInt8} (h : cs.length = 20) (hr : root.length = 16) : (regC cs A n c N a d C b e root).length = 39 := by
  simp [regC, cellsB_length, h, hr]
theorem reg_info {cs : List Value} {A : Option Addr} {n c : Nat} {N : Option Addr} {a d : Nat} {C : Option Addr} {b e : Nat} {root : List UInt8} (h : cs.length = 20) (hr : root.length = 16) : (Tryz.prog.info? 37).map (·.size) = some (regC cs A n c N a d C b e root).toArray.size := by
  rw [List.size_toArray, regC_length h hr]; kernel_rfl
theorem regC_all {cs : List Value} {A : Option Addr} {n c : Nat} {N : Option Addr} {a d : Nat} {C : Option Addr} {b e : Nat} {root : List UInt8} (h : ∀ v ∈ cs, v.oneCell' = true) : ∀ v ∈ regC cs A n c N a d C b e root, v.oneCell' = true := fun v hv => by
  unfold regC at hv
  rcases List.mem_append.1 hv with hv | hv
  · exact h v hv
  · simp only [List.mem_cons] at hv
    rcases hv with rfl | rfl | rfl | hv
    · rfl
    · rfl
    · rfl
    · exact cellsB_one root v hv
set_option maxRecDepth 100000 in
theorem built_reg (cs : List Value) (h20 : cs.length = 20) (A : Option Addr) (n c : Nat) :
    Tryz.prog.built 37 [(0, .agg cs.toArray), (1, .slice A n c)] = some (regC cs A n c none 0 0 none 0 0 zeroK).toArray := by
  have e : Tryz.prog.built 37 [(0, .agg cs.toArray), (1, .slice A n c)] = Instr.fill ((#[(0, 20), (20, 1), (21, 1), (22, 1), (23, 16)] : Array (Nat × Nat))[·]?) (([] : List Value) ++ (([.int .i64 0, .int .i64 0] ++ cellsB zeroK ++ [.slice none 0 0, .slice none 0 0] : List Value) ++ ([Value.slice none 0 0] ++ (Value.slice none 0 0 :: Value.slice none 0 0 :: cellsB zeroK)))).toArray [(0, .agg cs.toArray), (1, .slice A n c)] := by kernel_rfl
  refine e.trans ?_
  refine (fill_app ((#[(0, 20), (20, 1), (21, 1), (22, 1), (23, 16)] : Array (Nat × Nat))[·]?) [] ([.int .i64 0, .int .i64 0] ++ cellsB zeroK ++ [.slice none 0 0, .slice none 0 0]) _ cs 0 0 20 (.agg cs.toArray) _ rfl rfl rfl rfl h20).trans ?_
  refine (fill_app ((#[(0, 20), (20, 1), (21, 1), (22, 1), (23, 16)] : Array (Nat × Nat))[·]?) _ [.slice none 0 0] _ [.slice A n c] 1 20 1 (.slice A n c) _ rfl rfl (by simp [h20]) rfl rfl).trans ?_
  rw [Instr.fill]
  refine congrArg (fun l => some (List.toArray l)) ?_
  simp [regC]
theorem regC_get (cs : List Value) (h20 : cs.length = 20) (A : Option Addr) (n c : Nat) (N : Option Addr) (a d : Nat) (C : Option Addr) (b e : Nat) (root : List UInt8) :
    (regC cs A n c N a d C b e root)[20]? = some (.slice A n c) ∧ (regC cs A n c N a d C b e root)[21]? = some (.slice N a d) ∧ (regC cs A n c N a d C b e root)[22]? = some (.slice C b e) := by
  unfold regC
  refine ⟨?_, ?_, ?_⟩ <;> rw [List.getElem?_append_right (by omega), h20] <;> rfl
theorem regC_set1 (cs : List Value) (h20 : cs.length = 20) (A : Option Addr) (n c : Nat) (N : Option Addr) (a d : Nat) (C : Option Addr) (b e : Nat) (root : List UInt8) (N' : Option Addr) (a' d' : Nat) :
    (regC cs A n c N a d C b e root).set 21 (.slice N' a' d') = regC cs A n c N' a' d' C b e root := by
  unfold regC
  rw [List.set_append_right _ _ (by omega), h20]; rfl
theorem regC_set2 (cs : List Value) (h20 : cs.length = 20) (A : Option Addr) (n c : Nat) (N : Option Addr) (a d : Nat) (C : Option Addr) (b e : Nat) (root : List UInt8) (C' : Option Addr) (b' e' : Nat) :
    (regC cs A n c N a d C b e root).set 22 (.slice C' b' e') = regC cs A n c N a d C' b' e' root := by
  unfold regC
  rw [List.set_append_right _ _ (by omega), h20]; rfl
/-- The customers' nonces and commitments. -/
def nonF (k : List UInt8) (u : Nat) : List UInt8 := derS k 1 (UInt64.ofNat u)
def nonsF (k : List UInt8) (i : Nat) : List (List UInt8) := (List.range i).map (nonF k)
def comF (k : List UInt8) (hs : List (List UInt8)) (u : Nat) : List UInt8 := digS (openT (hs.getD u []) (nonF k u))
def comsF (k : List UInt8) (hs : List (List UInt8)) (i : Nat) : List (List UInt8) := (List.range i).map (comF k hs)
theorem nonF_length (k : List UInt8) (h : k.length = 16) (u : Nat) : (nonF k u).length = 16 := rfl
theorem comF_length (k : List UInt8) (hs : List (List UInt8)) (u : Nat) : (comF k hs u).length = 16 := digS_length _
theorem nonsF_len (k : List UInt8) (i : Nat) : (nonsF k i).length = i := by simp [nonsF]
theorem comsF_len (k : List UInt8) (hs : List (List UInt8)) (i : Nat) : (comsF k hs i).length = i := by simp [comsF]
theorem nonsF_succ (k : List UInt8) (i : Nat) : nonsF k (i + 1) = nonsF k i ++ [nonF k i] := by simp [nonsF, List.range_succ]
theorem comsF_succ (k : List UInt8) (hs : List (List UInt8)) (i : Nat) : comsF k hs (i + 1) = comsF k hs i ++ [comF k hs i] := by simp [comsF, List.range_succ]
theorem nonsF_16 (k : List UInt8) (h : k.length = 16) (i : Nat) : Keys16 (nonsF k i) := fun x hx => by
  obtain ⟨u, -, rfl⟩ := List.mem_map.1 hx
  exact nonF_length k h u
theorem comsF_16 (k : List UInt8) (hs : List (List UInt8)) (i : Nat) : Keys16 (comsF k hs i) := fun x hx => by
  obtain ⟨u, -, rfl⟩ := List.mem_map.1 hx
  exact comF_length k hs u
theorem comsF_get (k : List UInt8) (hs : List (List UInt8)) {i u : Nat} (h : u < i) : (comsF k hs i).getD u [] = comF k hs u := by
  simp [comsF, List.getD_eq_getElem?_getD, List.getElem?_range h]
theorem nonsF_get (k : List UInt8) {i u : Nat} (h : u < i) : (nonsF k i).getD u [] = nonF k u := by
  simp [nonsF, List.getD_eq_getElem?_getD, List.getElem?_range h]
end Go.Proofs.YtchnaimpmegbkaaGreatDoor

/- The register of the customers: the walk. -/
namespace Go.Proofs.YtchnaimpmegbkaaGreatDoor
open Go.RowKit
set_option linter.unusedVariables false
set_option linter.unusedSimpArgs false

theorem wpList_build_reg {ops : Array Oper} {rest : List Oper} {o : Oper} {a : Act} {w : World} {Q : Exit → Act → World → Prop} (hgd : o.guard = none) (parts : Array (Nat × Operand)) (ho : o.op = .build 37 parts) (d : Option Tmp) (hd : o.dst = d)
    (cs : List Value) (h20 : cs.length = 20) (A : Option Addr) (n c : Nat) (hx : (parts.map fun (i, x) => (i, a.eval x)).toList = [(0, .agg cs.toArray), (1, .slice A n c)])
    (hh : wpList Tryz.prog ops Q rest (a.put d (.agg (regC cs A n c none 0 0 none 0 0 zeroK).toArray)) w) : wpList Tryz.prog ops Q (o :: rest) a w :=
  wpList_buildTo hgd 37 parts ho d hd _ (by rw [hx]; exact built_reg cs h20 A n c) hh
theorem keys_cells (w : World) (ks : List (List UInt8)) : ∀ j u, (cellsK ks)[j]? = some u → (w.alloc (.cells (cellsK ks).toArray 23)).cell? ((⟨w.heap.size, 0, none⟩ : Addr).add j) = some u := fun j u hu => by
  rw [Addr.add_lit, Nat.zero_add, (Blk.new w 23 (cellsK ks).toArray).cell j]
  simpa using hu
def zReg : Array Value := #[.int .i64 0, .int .i64 0, .int .u8 0, .int .u8 0, .int .u8 0, .int .u8 0, .int .u8 0, .int .u8 0, .int .u8 0, .int .u8 0, .int .u8 0, .int .u8 0, .int .u8 0, .int .u8 0, .int .u8 0, .int .u8 0, .int .u8 0, .int .u8 0, .slice none 0 0, .slice none 0 0, .slice none 0 0, .slice none 0 0, .slice none 0 0, .int .u8 0, .int .u8 0, .int .u8 0, .int .u8 0, .int .u8 0, .int .u8 0, .int .u8 0, .int .u8 0, .int .u8 0, .int .u8 0, .int .u8 0, .int .u8 0, .int .u8 0, .int .u8 0, .int .u8 0, .int .u8 0]
theorem zero39 : (#[.int .i64 0, .int .i64 0, .int .u8 0, .int .u8 0, .int .u8 0, .int .u8 0, .int .u8 0, .int .u8 0, .int .u8 0, .int .u8 0, .int .u8 0, .int .u8 0, .int .u8 0, .int .u8 0, .int .u8 0, .int .u8 0, .int .u8 0, .int .u8 0, .slice none 0 0, .slice none 0 0, .slice none 0 0, .slice none 0 0, .slice none 0 0, .int .u8 0, .int .u8 0, .int .u8 0, .int .u8 0, .int .u8 0, .int .u8 0, .int .u8 0, .int .u8 0, .int .u8 0, .int .u8 0, .int .u8 0, .int .u8 0, .int .u8 0, .int .u8 0, .int .u8 0, .int .u8 0] : Array Value) = zReg := rfl
theorem zReg_old {cs : List Value} {A : Option Addr} {n c : Nat} {N : Option Addr} {a d : Nat} {C : Option Addr} {b e : Nat} {root : List UInt8} (h : cs.length = 20) (hr : root.length = 16) : zReg.size = (regC cs A n c N a d C b e root).toArray.size := by
  show 39 = _
  rw [List.size_toArray, regC_length h hr]
/-- What a register has been made of. -/
structure RegAt (w wr : World) (cl : List Value) (A : Option Addr) (n c : Nat) (K : List UInt8) (hs : List (List UInt8)) (i : Nat) (N : Option Addr) (a : Nat) (C : Option Addr) (b : Nat) : Prop where
  box : Blk wr w.heap.size 37 (regC cl A n c N i a C i b zeroK).toArray
  nons : OK16 (w.heap.size + 1) wr N a (nonsF K i)
  coms : OK16 (w.heap.size + 1) wr C b (comsF K hs i)
  apart : ApartK N C
  bel : Below w.heap.size w wr
theorem OK16.low_r {B : Nat} {w : World} {A : Option Addr} {c : Nat} {l : List (List UInt8)} (h : OK16 B w A c l) {g : Nat} (hg : g < B) (cs : Array Value) : OK16 B (w.setRow g cs) A c l :=
  ⟨h.1, h.2.elim Or.inl (fun ⟨g', cap, cur, hv, hB, hh, r⟩ => Or.inr ⟨g', cap, cur, hv, hB, by rw [← hh]; exact setRow_other w g g' cs (by omega), r⟩)⟩
/-- A nonce has been appended: what holds behind its store. -/
theorem reg_step1 {w w5 w6 : World} {cl : List Value} {A : Option Addr} {n c : Nat} {K : List UInt8} {hs : List (List UInt8)} {i : Nat} {N : Option Addr} {a : Nat} {C : Option Addr} {b : Nat} {g11 : Nat} {kn kc : List UInt8} {N' : Option Addr} {a' : Nat} (h20 : cl.length = 20) {o : Obj}
    (h : RegAt w w5 cl A n c K hs i N a C b) (hon : OK16 (w.heap.size + 1) w6 N' a' (nonsF K i ++ [kn])) (hoc : OK16 (w.heap.size + 1) w6 C b (comsF K hs i)) (hap : ApartK N' C) (hbl : Below (w.heap.size + 1) (w5.alloc o) w6)
    (h11 : Blk w5 g11 23 (cellsB kc).toArray) (hN : ∀ k, Value.ownBlock (.slice N i a) = some k → k < g11) (hg : (w5.alloc o).grownBy w6 (Value.ownBlock (.slice N i a))) (hne : w.heap.size < g11) :
    ∃ w7, Blk w7 w.heap.size 37 (regC cl A n c N' (i + 1) a' C i b zeroK).toArray ∧ w6.frozen? ⟨w.heap.size, 21, none⟩ = false ∧ w6.cell? ⟨w.heap.size, 21, none⟩ = some (.slice N i a) ∧ w7.cell? ⟨w.heap.size, 22, none⟩ = some (.slice C i b) ∧ w7.frozen? ⟨w.heap.size, 22, none⟩ = false ∧
      Blk w7 g11 23 (cellsB kc).toArray ∧ OK16 (w.heap.size + 1) w7 N' a' (nonsF K i ++ [kn]) ∧ OK16 (w.heap.size + 1) w7 C b (comsF K hs i) ∧ ApartK N' C ∧ Below w.heap.size w w7 ∧ w7 = w6.setCell ⟨w.heap.size, 21, none⟩ (.slice N' (i + 1) a') := by
  have B6 : Blk w6 w.heap.size 37 (regC cl A n c N i a C i b zeroK).toArray := (h.box.below' (alloc_bel _ _)).below hbl (by omega)
  have hk : Blk w6 g11 23 (cellsB kc).toArray := (hg.block g11 (by have := h11.lt; simp; omega) (fun e => by have := hN g11 e.symm; omega)).trans (h11.alloc o)
  have B7 := B6.set_ 21 (.slice N' (i + 1) a')
  rw [List.setIfInBounds_toArray, regC_set1 cl h20] at B7
  have g := regC_get cl h20 A n c N i a C i b zeroK
  have g' := regC_get cl h20 A n c N' (i + 1) a' C i b zeroK
  refine ⟨_, B7, B6.frozen 21, (B6.cell 21).trans (by simpa using g.2.1), (B7.cell 22).trans (by simpa using g'.2.2), B7.frozen 22, hk.far (p := ⟨w.heap.size, 21, none⟩) (by simp; omega) _, hon.set_low _ _ (by simp), hoc.set_low _ _ (by simp), hap, ?_, rfl⟩
  exact Below.setCell (p := ⟨w.heap.size, 21, none⟩) ((bel_on h.bel (alloc_bel w5 o)).trans (hbl.mono (Nat.le_succ _))) (Nat.le_refl _) _
/-- A commitment has been appended: the register after a round. -/
theorem reg_step2 {w w7 w8 : World} {cl : List Value} {A : Option Addr} {n c : Nat} {K : List UInt8} {hs : List (List UInt8)} {i : Nat} {N : Option Addr} {a : Nat} {C : Option Addr} {b : Nat} {kn kc : List UInt8} {C' : Option Addr} {b' : Nat} (h20 : cl.length = 20) {o : Obj}
    (hB : Blk w7 w.heap.size 37 (regC cl A n c N (i + 1) a C i b zeroK).toArray) (hbel : Below w.heap.size w w7) (hNI : nonsF K (i + 1) = nonsF K i ++ [kn]) (hCI : comsF K hs (i + 1) = comsF K hs i ++ [kc])
    (hoc : OK16 (w.heap.size + 1) w8 C' b' (comsF K hs i ++ [kc])) (hon : OK16 (w.heap.size + 1) w8 N a (nonsF K i ++ [kn])) (hap : ApartK C' N) (hbl : Below (w.heap.size + 1) (w7.alloc o) w8) :
    ∃ w9, RegAt w w9 cl A n c K hs (i + 1) N a C' b' ∧ w8.frozen? ⟨w.heap.size, 22, none⟩ = false ∧ w8.cell? ⟨w.heap.size, 22, none⟩ = some (.slice C i b) ∧ w9 = w8.setCell ⟨w.heap.size, 22, none⟩ (.slice C' (i + 1) b') := by
  have B8 : Blk w8 w.heap.size 37 (regC cl A n c N (i + 1) a C i b zeroK).toArray := (hB.below' (alloc_bel _ _)).below hbl (by omega)
  have B9 := B8.set_ 22 (.slice C' (i + 1) b')
  rw [List.setIfInBounds_toArray, regC_set2 cl h20] at B9
  have g := regC_get cl h20 A n c N (i + 1) a C i b zeroK
  refine ⟨_, ⟨B9, by rw [hNI]; exact hon.set_low _ _ (by simp), by rw [hCI]; exact hoc.set_low _ _ (by simp), (fun x y h1 h2 => (hap y x h2 h1).symm), ?_⟩, B8.frozen 22, (B8.cell 22).trans (by simpa using g.2.2), rfl⟩
  exact Below.setCell (p := ⟨w.heap.size, 22, none⟩) ((bel_on hbel (alloc_bel w7 o)).trans (hbl.mono (Nat.le_succ _))) (Nat.le_refl _) _
theorem reg_root {w : World} {g : Nat} {cl : List Value} {A : Option Addr} {n c : Nat} {N : Option Addr} {a d : Nat} {C : Option Addr} {b e : Nat} {r0 root : List UInt8} (h20 : cl.length = 20) (h0 : r0.length = 16) (hr : root.length = 16) (h : Blk w g 37 (regC cl A n c N a d C b e r0).toArray) :
    w.setCells g 23 (cellsB root) = w.setRow g (regC cl A n c N a d C b e root).toArray := by
  have hl : (cellsB root).length = 16 := by rw [cellsB_length, hr]
  have hs : (regC cl A n c N a d C b e r0).toArray.size = 39 := by rw [List.size_toArray, regC_length h20 h0]
  have x := run_storeCells_from (P := Tryz.prog) g _ (cellsB root) 23 _ w h (by rw [hl, hs]) (cellsB_one root)
  have y := run_storeCells_cells (P := Tryz.prog) g 0 (cellsB root) 23 w (fun j hj => by simpa using (h.there (o := 23) (n := 16) (by omega) j (by omega)).1) (fun j hj => by simpa using (h.there (o := 23) (n := 16) (by omega) j (by omega)).2) (cellsB_one root)
  rw [Nat.zero_add, x] at y
  injection y with _ y
  rw [← y]
  have e1 : regC cl A n c N a d C b e root = (cl ++ [.slice A n c, .slice N a d, .slice C b e]) ++ cellsB root := by simp [regC]
  have e2 : regC cl A n c N a d C b e r0 = (cl ++ [.slice A n c, .slice N a d, .slice C b e]) ++ cellsB r0 := by simp [regC]
  rw [e1, e2]
  congr 1
  rw [List.toList_toArray, List.take_left' (by simp [h20])]
set_option maxHeartbeats 8000000 in
set_option maxRecDepth 100000 in
theorem registered_any (s : StV) (A : Option Addr) (c : Nat) (rs : List BRow) (K : List UInt8) (w0 : World) {n : Nat} (hn : rs.length = n) (h0 : StOK w0 s) (hR0 : RR w0 A c rs) (hall : ∀ r ∈ rs, halfB r.l 1 = true) (hK : K.length = 16) (h1 : 1 ≤ n) (h2 : n ≤ 16) :
    Calls Tryz.prog 9 #[.agg s.cs.toArray, .slice A n c, .agg (cellsB K).toArray] w0 fun e w' => (∃ N a C b, e = .returned (.tuple #[.agg (regC s.cs A n c N n a C n b (rootS (comsF K (rs.map BRow.l) n))).toArray, .bool true]) ∧ OK16 w0.heap.size w' N a (nonsF K n) ∧ OK16 w0.heap.size w' C b (comsF K (rs.map BRow.l) n)) ∧ Below w0.heap.size w0 w' := by
  have hk := h0.k16
  obtain ⟨w, hW0⟩ : ∃ W : World, W = ((w0.alloc (.cells s.cs.toArray 29)).alloc (.cells (cellsB K).toArray 23)).alloc (.cells zReg 37) := ⟨_, rfl⟩
  have b0 : Hid (Below w0.heap.size w0 w) := by unfold Hid; rw [hW0]; exact alloc3_bel _ _ _ _
  have HXT : Hid (∀ W, Below w.heap.size w W → Blk W w0.heap.size 29 s.cs.toArray) := fun W hW => Blk.below' (by rw [hW0]; exact blk_a0 _ _ _ _ _) hW
  have HXN : Hid (∀ W, Below w.heap.size w W → Blk W (w0.heap.size + 1) 23 (cellsB K).toArray) := fun W hW => Blk.below' (by rw [hW0]; exact blk_a1 _ _ _ _ _) hW
  have HXR : Hid (∀ W, Below w.heap.size w W → Blk W (w0.heap.size + 1 + 1) 37 zReg) := fun W hW => Blk.below' (by rw [hW0]; exact blk_a2 _ _ _ _ _) hW
  have hR := hR0.below b0.out
  have HW0 := Lib.hid hW0
  have HIN := Lib.hid (StV.info (s := s) hk)
  have H20 : Hid (s.cs.length = 20) := StV.len hk
  have HAL : Hid (∀ v ∈ s.cs, v.oneCell' = true) := by
    have := StV.all s
    rw [List.all_toArray, List.all_eq_true] at this
    exact this
  have HKL := Lib.hid hK
  have K0 : Hid (Below w.heap.size w w) := Below.refl _ _
  have hni : (n : Int) ≤ 16 := by omega
  have HN := Lib.hid hn
  have HN16 : Hid (1 ≤ n ∧ n ≤ 16) := ⟨h1, h2⟩
  obtain ⟨hs, hhs⟩ : ∃ q, rs.map BRow.l = q := ⟨_, rfl⟩
  obtain ⟨bA, oA, rfl, -⟩ : ∃ b o, A = some ⟨b, o, none⟩ ∧ True := by
    obtain ⟨b, off, r, e, -, -, -, -⟩ := hR.at_ (i := 0) (by omega)
    exact ⟨b, off, e, trivial⟩
  have HRW : Hid (∀ i, i < n → ∃ X m x, (∀ W, Below w.heap.size w W → W.cell? ⟨bA, oA + i, none⟩ = some (.slice X m x)) ∧ (∀ W, Below w.heap.size w W → Calls Tryz.prog 27 #[.slice X m x, .agg (cellsB (nonF K i)).toArray] W fun e w' => e = .returned (.tuple #[.agg (cellsB (comF K hs i)).toArray, .int .i64 0]) ∧ Below W.heap.size W w')) := fun i hi => by
    obtain ⟨b', off', r, e, hb, hr, hcr, hRr⟩ := hR.at_ (i := i) (by omega)
    injection e with e
    injection e with e1 e2
    subst e1 e2
    refine ⟨r.A, r.l.length, r.c, fun W hW => (hW.cell (World.block_lt_of_cell? _ _ hcr)).trans hcr, fun W hW => ?_⟩
    have hlr := row_l hr
    rw [hhs] at hlr
    have := Commit_any r.l (nonF K i) r.A r.c W rfl (nonF_length K hK i) (hRr.below hW)
    have e1 : cmS r.l (nonF K i) = (comF K hs i, 0) := by
      unfold cmS comF
      rw [if_pos (hall r (List.mem_of_getElem? hr)), hlr]
    rw [e1] at this
    exact this
  have HDV : Hid (∀ i : Nat, i < n → ∀ W, Calls Tryz.prog 26 #[.agg (cellsB K).toArray, .int .u8 1, .int .u64 (i : Int)] W fun e w' => e = .returned (.agg (cellsB (nonF K i)).toArray) ∧ Below W.heap.size W w') := fun i hi W => by
    have := Derive_any K 1 (UInt64.ofNat i) W hK
    rw [UInt64.toNat_ofNat_of_lt' (show i < 18446744073709551616 by omega)] at this
    exact this
  have HRT : Hid (∀ W C b, KR W C b (comsF K hs n) → Calls Tryz.prog 28 #[.slice C n b] W fun e w' => e = .returned (.tuple #[.agg (cellsB (rootS (comsF K hs n))).toArray, .int .i64 0]) ∧ Below W.heap.size W w') := fun W C b hC => by
    have := Root_any (comsF K hs n) C b W (comsF_len _ _ _) hC
    have e1 : rtS (comsF K hs n) = (rootS (comsF K hs n), 0) := by
      unfold rtS
      rw [if_neg (by rw [comsF_len]; omega)]
    rw [e1] at this
    exact this
  have HZ := Lib.hid zero16
  have HNL : Hid (∀ i, (nonF K i).length = 16) := fun i => nonF_length K hK i
  have HCL : Hid (∀ i, (comF K hs i).length = 16) := fun i => comF_length K hs i
  have HNS : Hid (∀ i, nonsF K (i + 1) = nonsF K i ++ [nonF K i]) := fun i => nonsF_succ K i
  have HCS : Hid (∀ i, comsF K hs (i + 1) = comsF K hs i ++ [comF K hs i]) := fun i => comsF_succ K hs i
  rw [hhs]
  generalize s.cs = cl at *
  clear h0 hR0 hR hall hK hn h1 h2 hk hhs hW0
  go_enter Tryz.func9, Tryz.ntmps9
  go_wp2_with (first
    | (rw [zero39, ← HW0.out])
    | (refine wpList_load_row rfl 29 (.tmp 3) rfl w0.heap.size rfl 29 cl.toArray (0, 0) _ (HXT.out _ K0.out) Tryz.underlying29 rfl HIN.out ?_)
    | (refine wpList_build_reg rfl #[(0, .tmp 15), (1, .tmp 16)] rfl (some 17) rfl cl H20.out (some ⟨bA, oA, none⟩) n c (by kernel_rfl) ?_)
    | ((first | rw [zero39] | skip); refine wpList_store_row rfl 37 (.tmp 8) (.tmp 17) rfl w.heap.size (regC cl (some ⟨bA, oA, none⟩) n c none 0 0 none 0 0 zeroK).toArray rfl rfl 37 zReg (Blk.new w _ _) (reg_info H20.out zeroK_length) (zReg_old H20.out zeroK_length) (all_oneCell_toArray (regC_all HAL.out)) ?_; obtain ⟨w1, hV⟩ : ∃ W, W = (w.alloc (.cells zReg 37)).setRow w.heap.size (regC cl (some ⟨bA, oA, none⟩) n c none 0 0 none 0 0 zeroK).toArray := ⟨_, rfl⟩; rw [← hV]; obtain ⟨gb, nb⟩ := keybox2_ _ _ _ _ hV; have B1 := Lib.hid gb; have X1 := Lib.hid nb; clear hV gb nb))
  --MARK 1
  go_loopw [9] (fun vi wr => ∃ (i : Nat) (N : Option Addr) (a : Nat) (C : Option Addr) (b : Nat), i ≤ n ∧ vi = .int .i64 (i : Int) ∧ Hid (RegAt w wr cl (some ⟨bA, oA, none⟩) n c K hs i N a C b)) (fun vi _ => n - (intOf vi).toNat)
  case atStart => exact ⟨0, none, 0, none, 0, by omega, rfl, ⟨X1.out, OK16.nil _ _, OK16.nil _ _, (fun _ _ h _ => by cases h), B1.out⟩⟩
  case round =>
    obtain ⟨i, N, a, C, b, hi, rfl, HR⟩ := hrel
    by_cases hin : i < n
    · have hii : (i : Int) < n := by omega
      have hi0 : (0 : Int) ≤ i := by omega
      have hcv : IntKind.u64.wrap (i : Int) = (i : Int) := by rw [IntKind.wrap_u64]; omega
      obtain ⟨X, m, x, hXc, hXm⟩ := HRW.out i hin
      have HXC := Lib.hid hXc
      have HCM := Lib.hid hXm
      have HDI := Lib.hid (HDV.out i hin)
      have HKN := Lib.hid (HNL.out i)
      have HKC := Lib.hid (HCL.out i)
      have HNI := Lib.hid (HNS.out i)
      have HCI := Lib.hid (HCS.out i)
      obtain ⟨kn, hkn⟩ : ∃ q, nonF K i = q := ⟨_, rfl⟩
      obtain ⟨kc, hkc⟩ : ∃ q, comF K hs i = q := ⟨_, rfl⟩
      rw [hkn] at HDI HKN HNI HCM
      rw [hkc] at HKC HCI HCM
      have KR : Hid (Below w.heap.size w wr) := HR.out.bel
      clear hXc hXm hkn hkc hin
      go_wp2_with (first
        | (refine wpList_load_row rfl 23 (.tmp 5) rfl (w0.heap.size + 1) rfl 23 (cellsB K).toArray (0, 0) _ (HXN.out _ KR.out) under_key rfl (cellsB_size _ HKL.out) ?_)
        | (go_at_call 26; (with_reducible refine (HDI.out _).mono ?_); rintro e w2 ⟨rfl, hb2⟩; have K2 := Lib.hid (bel_on KR.out hb2); have J2 := Lib.hid hb2; clear hb2)
        | ((first | rw [zero16] | skip); refine wpList_store_row rfl 23 (.tmp 10) (.tmp 27) rfl w2.heap.size (cellsB kn).toArray rfl rfl 23 (cellsB zeroK).toArray (Blk.new w2 _ _) (cellsB_size _ HKN.out) (cellsB_sizes _ _ zeroK_length HKN.out) (cellsB_all _) ?_; obtain ⟨w3, hV⟩ : ∃ W, W = (w2.alloc (.cells (cellsB zeroK).toArray 23)).setRow w2.heap.size (cellsB kn).toArray := ⟨_, rfl⟩; rw [← hV]; obtain ⟨gb, nb⟩ := keybox2_ _ _ _ _ hV; have J3 := Lib.hid (bel_on J2.out gb); have T3 := Lib.hid nb; clear hV gb nb))
      --MARK 2
      have HR3 : RegAt w w3 cl (some ⟨bA, oA, none⟩) n c K hs i N a C b := ⟨HR.out.box.below' J3.out, HR.out.nons.below J3.out, HR.out.coms.below J3.out, HR.out.apart, bel_on HR.out.bel J3.out⟩
      have HS : Hid (∀ W, Below w3.heap.size w3 W → W.cell? ⟨bA, oA + i, none⟩ = some (.slice X m x) ∧ W.rangeAt w2.heap.size 0 (cellsB kn)) := fun W hW => ⟨HXC.out _ (bel_on HR3.bel hW), (T3.out.below' hW).range⟩
      have E0 : Below w3.heap.size w3 w3 := Below.refl _ _
      refine wp_region_noPanic ?_
      refine wp_region_held_drew (S := fun W => W.cell? ⟨bA, oA + i, none⟩ = some (.slice X m x) ∧ W.rangeAt w2.heap.size 0 (cellsB kn)) (by kernel_rfl) (HS.out _ E0.drew) (fun hS => ?_)
      have E0 := E0.drew
      refine hd_take 0 (_) rfl rfl (by kernel_rfl) (by kernel_rfl) (by kernel_rfl) (fun _ _ _ h => h) (fun w hw => by go_simp <;> rfl) hS ?_
      simp only [List.getElem_toArray, List.getElem_cons_succ, List.getElem_cons_zero, Act.put, List.setIfInBounds_toArray, List.set_cons_zero, List.set_cons_succ]
      refine hd_take 1 (_) rfl rfl (by kernel_rfl) (by kernel_rfl) (by kernel_rfl) (fun _ _ _ h => h) (fun w hw => by go_simp <;> rfl) hS ?_
      simp only [List.getElem_toArray, List.getElem_cons_succ, List.getElem_cons_zero, Act.put, List.setIfInBounds_toArray, List.set_cons_zero, List.set_cons_succ]
      refine hd_take 2 (_) rfl rfl (by kernel_rfl) (by kernel_rfl) (by kernel_rfl) (fun _ _ _ h => h) (fun w hw => by go_simp <;> rfl) hS ?_
      simp only [List.getElem_toArray, List.getElem_cons_succ, List.getElem_cons_zero, Act.put, List.setIfInBounds_toArray, List.set_cons_zero, List.set_cons_succ]
      refine hd_take 3 (.slice X m x) rfl rfl (by kernel_rfl) (by kernel_rfl) (by kernel_rfl) (fun _ _ _ h => h) (fun w hw => by have hx := hw.1; simp [go_sem, hx]) hS ?_
      simp only [List.getElem_toArray, List.getElem_cons_succ, List.getElem_cons_zero, Act.put, List.setIfInBounds_toArray, List.set_cons_zero, List.set_cons_succ]
      refine hd_load 4 (w2.heap.size) (0) (cellsB kn) _ _ rfl rfl rfl (by kernel_rfl) (by kernel_rfl) (by kernel_rfl) (fun _ _ _ h => h) rfl (fun w hw => hw.2) under_key rfl (key_info HKN.out) hS ?_
      simp only [List.getElem_toArray, List.getElem_cons_succ, List.getElem_cons_zero, Act.put, List.setIfInBounds_toArray, List.set_cons_zero, List.set_cons_succ]
      --MARK 3
      refine hd_two 5 9 (by kernel_rfl) (op_call 27 #[.slice X m x, .agg (cellsB kn).toArray] rfl rfl (by go_simp <;> rfl) ((HCM.out _ (bel_on HR3.bel E0)).mono ?_)) (op_run (.pointer (some ⟨w3.heap.size, 0, none⟩)) (w3.drew.alloc (.cells (cellsB zeroK).toArray 23)) rfl rfl (by rw [← HZ.out]; go_simp) ⟨HS.out _ (bel_on E0 (alloc_bel _ _)), ?_⟩)
      · rintro e w4 ⟨rfl, hb⟩
        have E1_ := bel_on E0 hb
        have hS1_ := HS.out _ E1_
        clear hb
        refine ⟨_, rfl, hS1_, ?_⟩
        simp only [List.getElem_toArray, List.getElem_cons_succ, List.getElem_cons_zero, Act.put, List.setIfInBounds_toArray, List.set_cons_zero, List.set_cons_succ]
        refine hd_take 6 (_) rfl rfl (by kernel_rfl) (by kernel_rfl) (by kernel_rfl) (fun _ _ _ h => h) (fun w hw => by go_simp <;> rfl) hS1_ ?_
        simp only [List.getElem_toArray, List.getElem_cons_succ, List.getElem_cons_zero, Act.put, List.setIfInBounds_toArray, List.set_cons_zero, List.set_cons_succ]
        refine hd_take 7 (_) rfl rfl (by kernel_rfl) (by kernel_rfl) (by kernel_rfl) (fun _ _ _ h => h) (fun w hw => by go_simp <;> rfl) hS1_ ?_
        simp only [List.getElem_toArray, List.getElem_cons_succ, List.getElem_cons_zero, Act.put, List.setIfInBounds_toArray, List.set_cons_zero, List.set_cons_succ]
        refine hd_take 8 (_) rfl rfl (by kernel_rfl) (by kernel_rfl) (by kernel_rfl) (fun _ _ _ h => h) (fun w hw => by go_simp <;> rfl) hS1_ ?_
        simp only [List.getElem_toArray, List.getElem_cons_succ, List.getElem_cons_zero, Act.put, List.setIfInBounds_toArray, List.set_cons_zero, List.set_cons_succ]
        have E2_ := bel_on E1_ (alloc_bel w4 (.cells (cellsB zeroK).toArray 23))
        refine hd_sole 9 (by kernel_rfl) (op_run (.pointer (some ⟨w4.heap.size, 0, none⟩)) (w4.alloc (.cells (cellsB zeroK).toArray 23)) rfl rfl (by rw [← HZ.out]; go_simp) ⟨HS.out _ E2_, ?_⟩)
        simp only [List.getElem_toArray, List.getElem_cons_succ, List.getElem_cons_zero, Act.put, List.setIfInBounds_toArray, List.set_cons_zero, List.set_cons_succ]
        obtain ⟨w5, hV5⟩ : ∃ W, W = (w4.alloc (.cells (cellsB zeroK).toArray 23)).setRow w4.heap.size (cellsB kc).toArray := ⟨_, rfl⟩
        obtain ⟨gb5, nb5⟩ := keybox2_ _ _ _ _ hV5
        have E3_ := bel_on E1_ gb5
        clear gb5
        have hS5 := HS.out _ E3_
        refine hd_store 10 (w4.heap.size) (cellsB kc).toArray _ _ _ rfl rfl rfl (by kernel_rfl) rfl rfl (Blk.new w4 _ _) (cellsB_size _ HKC.out) (cellsB_sizes _ _ zeroK_length HKC.out) (cellsB_all _) (by rw [← hV5]; exact hS5) ?_
        rw [← hV5]
        simp only [List.getElem_toArray, List.getElem_cons_succ, List.getElem_cons_zero, Act.put, List.setIfInBounds_toArray, List.set_cons_zero, List.set_cons_succ]
        refine hd_take 11 (_) rfl rfl (by kernel_rfl) (by kernel_rfl) (by kernel_rfl) (fun _ _ _ h => h) (fun w hw => by go_simp <;> rfl) hS5 ?_
        simp only [List.getElem_toArray, List.getElem_cons_succ, List.getElem_cons_zero, Act.put, List.setIfInBounds_toArray, List.set_cons_zero, List.set_cons_succ]
        refine wpAnyH_done (by kernel_rfl) (NoPanic.normal ?_) _
        have HR5 : RegAt w w5 cl (some ⟨bA, oA, none⟩) n c K hs i N a C b := ⟨HR3.box.below' E3_, HR3.nons.below E3_, HR3.coms.below E3_, HR3.apart, bel_on HR3.bel E3_⟩
        have T10 := Lib.hid (T3.out.below' E3_)
        have T11 := Lib.hid nb5
        have HNL4 : Hid (∀ k, Value.ownBlock (.slice N i a) = some k → k < w4.heap.size) := fun k hk => Nat.lt_of_lt_of_le (HR3.nons.lt k (by rw [nonsF_len]; exact hk)).2 E1_.size
        have HLT4 : Hid (w.heap.size < w4.heap.size) := Nat.lt_of_lt_of_le HR3.box.lt (by have := E1_.size; omega)
        have c21 : w5.cell? ⟨w.heap.size, 21, none⟩ = some (.slice N i a) := (HR5.box.cell 21).trans (by simpa using (regC_get cl H20.out (some ⟨bA, oA, none⟩) n c N i a C i b zeroK).2.1)
        have HR5' := Lib.hid HR5
        clear HR5 hV5 nb5 E0 E1_ E2_ E3_ hS5 hS hS1_ HS
        go_wp2_with (first
          | (rw [← HW7.out])
          | (rw [← HW9.out])
          | (refine wpList_load_row rfl 23 (.tmp 10) rfl w2.heap.size rfl 23 (cellsB kn).toArray (0, 0) _ T10.out under_key rfl (cellsB_size _ HKN.out) ?_)
          | (refine wpList_load_row rfl 23 (.tmp 11) rfl w4.heap.size rfl 23 (cellsB kc).toArray (0, 0) _ HT7.out under_key rfl (cellsB_size _ HKC.out) ?_)
          | (refine wpList_build_keys rfl 1 #[(0, .tmp 42)] rfl [kn] (fun x hx => by rw [List.mem_singleton.1 hx]; exact HKN.out) rfl (by omega) (by omega) (by kernel_rfl) ?_)
          | (refine wpList_build_keys rfl 1 #[(0, .tmp 48)] rfl [kc] (fun x hx => by rw [List.mem_singleton.1 hx]; exact HKC.out) rfl (by omega) (by omega) (by kernel_rfl) ?_)
          | (at_builtin; refine wpList_append_keys2 _ rfl (.tmp 41) (.tmp 43) rfl (w.heap.size + 1) N i a (nonsF K i) (nonsF_len K i) rfl (HR5'.out.nons.below (alloc_bel _ _)) C b (comsF K hs i) (HR5'.out.coms.below (alloc_bel _ _)) HR5'.out.apart ⟨w5.heap.size, 0, none⟩ 1 1 [kn] rfl (fun x hx => by rw [List.mem_singleton.1 hx]; exact HKN.out) rfl (keys_cells w5 [kn]) (by omega) (by omega) (by have := HR5'.out.box.lt; simp; omega) ?_; intro N' a' w6 hon hoc hap hbl hg; obtain ⟨w7, B7, f21, c21, c22, f22, T7, O7, P7, A7, L7, hW7⟩ := reg_step1 H20.out HR5'.out hon hoc hap hbl T11.out HNL4.out hg HLT4.out; have HW7 := Lib.hid hW7; have HB7 := Lib.hid B7; have HT7 := Lib.hid T7; have HO7 := Lib.hid O7; have HP7 := Lib.hid P7; have HA7 := Lib.hid A7; have HL7 := Lib.hid L7; clear hon hoc hap hbl hg hW7 B7 T7 O7 P7 A7 L7)
          | (at_builtin; refine wpList_append_keys2 _ rfl (.tmp 47) (.tmp 49) rfl (w.heap.size + 1) C i b (comsF K hs i) (comsF_len K hs i) rfl (HP7.out.below (alloc_bel _ _)) N' a' (nonsF K i ++ [kn]) (HO7.out.below (alloc_bel _ _)) (fun x y h1 h2 => (HA7.out y x h2 h1).symm) ⟨w7.heap.size, 0, none⟩ 1 1 [kc] rfl (fun x hx => by rw [List.mem_singleton.1 hx]; exact HKC.out) rfl (keys_cells w7 [kc]) (by omega) (by omega) (by have := HB7.out.lt; simp; omega) ?_; intro C' b' w8 hon hoc hap hbl hg; obtain ⟨w9, R9, f22', c22', hW9⟩ := reg_step2 H20.out HB7.out HL7.out HNI.out HCI.out hon hoc hap hbl; have HW9 := Lib.hid hW9; have HR9 := Lib.hid R9; clear hon hoc hap hbl hg hW9 R9))
        go_roundw
        case rel => exact ⟨i + 1, N', a', C', b', by omega, by go_num, HR9.out⟩
        case measure => simp [intOf]; omega
      --MARK 4
      · simp only [List.getElem_toArray, List.getElem_cons_succ, List.getElem_cons_zero, Act.put, List.setIfInBounds_toArray, List.set_cons_zero, List.set_cons_succ]
        have E1_ := bel_on E0 (alloc_bel w3.drew (.cells (cellsB zeroK).toArray 23))
        have hS1_ := HS.out _ E1_
        refine hd_calls 5 27 #[.slice X m x, .agg (cellsB kn).toArray] rfl rfl (by kernel_rfl) (by go_simp <;> rfl) ?_
        refine (HCM.out _ (bel_on HR3.bel E1_)).mono ?_
        rintro e w4 ⟨rfl, hb⟩
        have E2_ := bel_on E1_ hb
        have hS2_ := HS.out _ E2_
        have Q4 : Blk w4 w3.heap.size 23 (cellsB zeroK).toArray := (Blk.new w3.drew 23 (cellsB zeroK).toArray).below' hb
        clear hb
        refine ⟨_, rfl, hS2_, ?_⟩
        simp only [List.getElem_toArray, List.getElem_cons_succ, List.getElem_cons_zero, Act.put, List.setIfInBounds_toArray, List.set_cons_zero, List.set_cons_succ]
        refine hd_take 6 (_) rfl rfl (by kernel_rfl) (by kernel_rfl) (by kernel_rfl) (fun _ _ _ h => h) (fun w hw => by go_simp <;> rfl) hS2_ ?_
        simp only [List.getElem_toArray, List.getElem_cons_succ, List.getElem_cons_zero, Act.put, List.setIfInBounds_toArray, List.set_cons_zero, List.set_cons_succ]
        refine hd_take 7 (_) rfl rfl (by kernel_rfl) (by kernel_rfl) (by kernel_rfl) (fun _ _ _ h => h) (fun w hw => by go_simp <;> rfl) hS2_ ?_
        simp only [List.getElem_toArray, List.getElem_cons_succ, List.getElem_cons_zero, Act.put, List.setIfInBounds_toArray, List.set_cons_zero, List.set_cons_succ]
        refine hd_take 8 (_) rfl rfl (by kernel_rfl) (by kernel_rfl) (by kernel_rfl) (fun _ _ _ h => h) (fun w hw => by go_simp <;> rfl) hS2_ ?_
        simp only [List.getElem_toArray, List.getElem_cons_succ, List.getElem_cons_zero, Act.put, List.setIfInBounds_toArray, List.set_cons_zero, List.set_cons_succ]
        obtain ⟨w5, hV5⟩ : ∃ W, W = w4.setRow w3.heap.size (cellsB kc).toArray := ⟨_, rfl⟩
        have nb5 : Blk w5 w3.heap.size 23 (cellsB kc).toArray := by rw [hV5]; exact Q4.setRow _
        have E3_ : Below w3.heap.size w3 w5 := by rw [hV5]; exact below_setRow E2_ (Nat.le_refl _) _
        have hS5 := HS.out _ E3_
        refine hd_store 10 (w3.heap.size) (cellsB kc).toArray _ _ _ rfl rfl rfl (by kernel_rfl) rfl rfl Q4 (cellsB_size _ HKC.out) (cellsB_sizes _ _ zeroK_length HKC.out) (cellsB_all _) (by rw [← hV5]; exact hS5) ?_
        rw [← hV5]
        simp only [List.getElem_toArray, List.getElem_cons_succ, List.getElem_cons_zero, Act.put, List.setIfInBounds_toArray, List.set_cons_zero, List.set_cons_succ]
        clear Q4 hS2_
        refine hd_take 11 (_) rfl rfl (by kernel_rfl) (by kernel_rfl) (by kernel_rfl) (fun _ _ _ h => h) (fun w hw => by go_simp <;> rfl) hS5 ?_
        simp only [List.getElem_toArray, List.getElem_cons_succ, List.getElem_cons_zero, Act.put, List.setIfInBounds_toArray, List.set_cons_zero, List.set_cons_succ]
        refine wpAnyH_done (by kernel_rfl) (NoPanic.normal ?_) _
        have HR5 : RegAt w w5 cl (some ⟨bA, oA, none⟩) n c K hs i N a C b := ⟨HR3.box.below' E3_, HR3.nons.below E3_, HR3.coms.below E3_, HR3.apart, bel_on HR3.bel E3_⟩
        have T10 := Lib.hid (T3.out.below' E3_)
        have T11 := Lib.hid nb5
        have HNL4 : Hid (∀ k, Value.ownBlock (.slice N i a) = some k → k < w3.heap.size) := fun k hk => (HR3.nons.lt k (by rw [nonsF_len]; exact hk)).2
        have HLT4 : Hid (w.heap.size < w3.heap.size) := HR3.box.lt
        have c21 : w5.cell? ⟨w.heap.size, 21, none⟩ = some (.slice N i a) := (HR5.box.cell 21).trans (by simpa using (regC_get cl H20.out (some ⟨bA, oA, none⟩) n c N i a C i b zeroK).2.1)
        have HR5' := Lib.hid HR5
        clear HR5 hV5 nb5 E0 E1_ E2_ E3_ hS5 hS hS1_ HS
        go_wp2_with (first
          | (rw [← HW7.out])
          | (rw [← HW9.out])
          | (refine wpList_load_row rfl 23 (.tmp 10) rfl w2.heap.size rfl 23 (cellsB kn).toArray (0, 0) _ T10.out under_key rfl (cellsB_size _ HKN.out) ?_)
          | (refine wpList_load_row rfl 23 (.tmp 11) rfl w3.heap.size rfl 23 (cellsB kc).toArray (0, 0) _ HT7.out under_key rfl (cellsB_size _ HKC.out) ?_)
          | (refine wpList_build_keys rfl 1 #[(0, .tmp 42)] rfl [kn] (fun x hx => by rw [List.mem_singleton.1 hx]; exact HKN.out) rfl (by omega) (by omega) (by kernel_rfl) ?_)
          | (refine wpList_build_keys rfl 1 #[(0, .tmp 48)] rfl [kc] (fun x hx => by rw [List.mem_singleton.1 hx]; exact HKC.out) rfl (by omega) (by omega) (by kernel_rfl) ?_)
          | (at_builtin; refine wpList_append_keys2 _ rfl (.tmp 41) (.tmp 43) rfl (w.heap.size + 1) N i a (nonsF K i) (nonsF_len K i) rfl (HR5'.out.nons.below (alloc_bel _ _)) C b (comsF K hs i) (HR5'.out.coms.below (alloc_bel _ _)) HR5'.out.apart ⟨w5.heap.size, 0, none⟩ 1 1 [kn] rfl (fun x hx => by rw [List.mem_singleton.1 hx]; exact HKN.out) rfl (keys_cells w5 [kn]) (by omega) (by omega) (by have := HR5'.out.box.lt; simp; omega) ?_; intro N' a' w6 hon hoc hap hbl hg; obtain ⟨w7, B7, f21, c21, c22, f22, T7, O7, P7, A7, L7, hW7⟩ := reg_step1 H20.out HR5'.out hon hoc hap hbl T11.out HNL4.out hg HLT4.out; have HW7 := Lib.hid hW7; have HB7 := Lib.hid B7; have HT7 := Lib.hid T7; have HO7 := Lib.hid O7; have HP7 := Lib.hid P7; have HA7 := Lib.hid A7; have HL7 := Lib.hid L7; clear hon hoc hap hbl hg hW7 B7 T7 O7 P7 A7 L7)
          | (at_builtin; refine wpList_append_keys2 _ rfl (.tmp 47) (.tmp 49) rfl (w.heap.size + 1) C i b (comsF K hs i) (comsF_len K hs i) rfl (HP7.out.below (alloc_bel _ _)) N' a' (nonsF K i ++ [kn]) (HO7.out.below (alloc_bel _ _)) (fun x y h1 h2 => (HA7.out y x h2 h1).symm) ⟨w7.heap.size, 0, none⟩ 1 1 [kc] rfl (fun x hx => by rw [List.mem_singleton.1 hx]; exact HKC.out) rfl (keys_cells w7 [kc]) (by omega) (by omega) (by have := HB7.out.lt; simp; omega) ?_; intro C' b' w8 hon hoc hap hbl hg; obtain ⟨w9, R9, f22', c22', hW9⟩ := reg_step2 H20.out HB7.out HL7.out HNI.out HCI.out hon hoc hap hbl; have HW9 := Lib.hid hW9; have HR9 := Lib.hid R9; clear hon hoc hap hbl hg hW9 R9))
        go_roundw
        case rel => exact ⟨i + 1, N', a', C', b', by omega, by go_num, HR9.out⟩
        case measure => simp [intOf]; omega
    · obtain rfl : i = n := by omega
      have hx5 : ¬ ((i : Int) < (i : Int)) := by omega
      have HRL : Hid ((rootS (comsF K hs i)).length = 16) := rootS_length _
      have HRT2 := Lib.hid (HRT.out wr C b (HR.out.coms.kr (comsF_16 K hs i) (by rw [comsF_len]; omega)))
      have c22 : wr.cell? ⟨w.heap.size, 22, none⟩ = some (.slice C i b) := (HR.out.box.cell 22).trans (by simpa using (regC_get cl H20.out (some ⟨bA, oA, none⟩) i c N i a C i b zeroK).2.2)
      obtain ⟨rt, hrt⟩ : ∃ q, rootS (comsF K hs i) = q := ⟨_, rfl⟩
      rw [hrt] at HRL HRT2
      have HRE := Lib.hid hrt
      clear HRW HDV HRT HNL HCL HNS HCS X1 B1 hrt
      --MARK 7
      go_wp2_with (first
        | (go_at_call 28; (with_reducible refine HRT2.out.mono ?_); rintro e w2 ⟨rfl, hb2⟩; have R2 := Lib.hid (HR.out.box.below' hb2); have N2 := Lib.hid (HR.out.nons.below hb2); have C2 := Lib.hid (HR.out.coms.below hb2); have E2 := Lib.hid (bel_on HR.out.bel hb2); clear hb2 c22)
        | ((first | rw [zero16] | skip); refine wpList_store_row rfl 23 (.tmp 13) (.tmp 56) rfl w2.heap.size (cellsB rt).toArray rfl rfl 23 (cellsB zeroK).toArray (Blk.new w2 _ _) (cellsB_size _ HRL.out) (cellsB_sizes _ _ zeroK_length HRL.out) (cellsB_all _) ?_; obtain ⟨w3, hV⟩ : ∃ W, W = (w2.alloc (.cells (cellsB zeroK).toArray 23)).setRow w2.heap.size (cellsB rt).toArray := ⟨_, rfl⟩; rw [← hV]; obtain ⟨gb, nb⟩ := keybox2_ _ _ _ _ hV; have T3 := Lib.hid nb; have R3 := Lib.hid (R2.out.below' gb); have N3 := Lib.hid (N2.out.below gb); have C3 := Lib.hid (C2.out.below gb); have E3 := Lib.hid (bel_on E2.out gb); clear hV gb nb)
        | (refine wpList_load_row rfl 23 (.tmp 13) rfl w2.heap.size rfl 23 (cellsB rt).toArray (0, 0) _ T3.out under_key rfl (cellsB_size _ HRL.out) ?_)
        | (refine wpList_store_mid rfl 23 (.tmp 59) (.tmp 58) rfl w.heap.size 23 (cellsB rt).toArray rfl rfl (R3.out.there (by rw [List.size_toArray, List.size_toArray, regC_length H20.out zeroK_length, cellsB_length, HRL.out]; omega)) (cellsB_size _ HRL.out) (cellsB_all _) ?_; obtain ⟨w4, hV⟩ : ∃ W, W = w3.setCells w.heap.size 23 (cellsB rt).toArray.toList := ⟨_, rfl⟩; rw [← hV]; have hV' : w4 = w3.setRow w.heap.size (regC cl (some ⟨bA, oA, none⟩) i c N i a C i b rt).toArray := hV.trans (reg_root H20.out zeroK_length HRL.out R3.out); have R4 : Hid (Blk w4 w.heap.size 37 (regC cl (some ⟨bA, oA, none⟩) i c N i a C i b rt).toArray) := (by unfold Hid; rw [hV']; exact R3.out.setRow _); have E4 : Hid (Below w.heap.size w w4) := (by unfold Hid; rw [hV']; exact below_setRow E3.out (Nat.le_refl _) _); have N4 : Hid (OK16 (w.heap.size + 1) w4 N a (nonsF K i)) := (by unfold Hid; rw [hV']; exact N3.out.low_r (by omega) _); have C4 : Hid (OK16 (w.heap.size + 1) w4 C b (comsF K hs i)) := (by unfold Hid; rw [hV']; exact C3.out.low_r (by omega) _); clear hV hV')
        | (refine wpList_load_row rfl 37 (.tmp 8) rfl w.heap.size rfl 37 (regC cl (some ⟨bA, oA, none⟩) i c N i a C i b rt).toArray (0, 0) _ R4.out Tryz.underlying37 rfl (reg_info H20.out HRL.out) ?_)
        | (refine wpList_store_row rfl 37 (.tmp 6) (.tmp 60) rfl (w0.heap.size + 1 + 1) (regC cl (some ⟨bA, oA, none⟩) i c N i a C i b rt).toArray rfl rfl 37 zReg (HXR.out _ E4.out) (reg_info H20.out HRL.out) (zReg_old H20.out HRL.out) (all_oneCell_toArray (regC_all HAL.out)) ?_))
      --MARK 8
      have b1 := bel_on b0.out E4.out
      refine bodyPost_ret (v := .tuple #[.agg (regC cl (some ⟨bA, oA, none⟩) i c N i a C i b rt).toArray, .bool true]) ?_ rfl ⟨⟨N, a, C, b, by rw [HRE.out], ?_, ?_⟩, below_setRow b1 (by omega) _⟩
      · rw [results_cell_tmp Tryz.results9]
        simp [asAddr, Result.andThen, run_loadVar_row _ (w0.heap.size + 1 + 1) _ _ _ (0, 0) _ ((HXR.out _ E4.out).setRow (regC cl (some ⟨bA, oA, none⟩) i c N i a C i b rt).toArray) Tryz.underlying37 rfl (reg_info H20.out HRL.out)]
      · exact (N4.out.low_r (by have := (HXR.out _ K0.out).lt; omega) _).le_ (by have := b0.out.size; omega)
      · exact (C4.out.low_r (by have := (HXR.out _ K0.out).lt; omega) _).le_ (by have := b0.out.size; omega)
end Go.Proofs.YtchnaimpmegbkaaGreatDoor

/- Cases whose commitment or opening is written anew; what a law on a register needs of them. -/
namespace Go.Proofs.YtchnaimpmegbkaaGreatDoor
open Go.RowKit
set_option linter.unusedVariables false
set_option linter.unusedSimpArgs false

section
variable {w : World} {g : Nat} {v : CV} {A : Option Addr} {m c : Nat} {Y : Option Addr} {n y : Nat} {H : Option Addr} {k h : Nat}
end
end Go.Proofs.YtchnaimpmegbkaaGreatDoor

/- The case against a customer, out of the register: the walk. -/
namespace Go.Proofs.YtchnaimpmegbkaaGreatDoor
open Go.RowKit
set_option linter.unusedVariables false
set_option linter.unusedSimpArgs false

def zCase : Array Value := #[.int .u8 0, .int .u8 0, .int .u8 0, .int .u8 0, .int .u8 0, .int .u8 0, .int .u8 0, .int .u8 0, .int .u8 0, .int .u8 0, .int .u8 0, .int .u8 0, .int .u8 0, .int .u8 0, .int .u8 0, .int .u8 0, .int .u8 0, .int .u8 0, .int .u8 0, .int .u8 0, .int .u8 0, .int .u8 0, .int .u8 0, .int .u8 0, .int .u8 0, .int .u8 0, .int .u8 0, .int .u8 0, .int .u8 0, .int .u8 0, .int .u8 0, .int .u8 0, .int .i64 0, .int .i64 0, .slice none 0 0, .slice none 0 0, .int .i64 0, .bool false, .slice none 0 0, .int .u8 0, .int .u8 0, .int .u8 0, .int .u8 0, .int .u8 0, .int .u8 0, .int .u8 0, .int .u8 0, .int .u8 0, .int .u8 0, .int .u8 0, .int .u8 0, .int .u8 0, .int .u8 0, .int .u8 0, .int .u8 0]
theorem zero55_ : (#[.int .u8 0, .int .u8 0, .int .u8 0, .int .u8 0, .int .u8 0, .int .u8 0, .int .u8 0, .int .u8 0, .int .u8 0, .int .u8 0, .int .u8 0, .int .u8 0, .int .u8 0, .int .u8 0, .int .u8 0, .int .u8 0, .int .u8 0, .int .u8 0, .int .u8 0, .int .u8 0, .int .u8 0, .int .u8 0, .int .u8 0, .int .u8 0, .int .u8 0, .int .u8 0, .int .u8 0, .int .u8 0, .int .u8 0, .int .u8 0, .int .u8 0, .int .u8 0, .int .i64 0, .int .i64 0, .slice none 0 0, .slice none 0 0, .int .i64 0, .bool false, .slice none 0 0, .int .u8 0, .int .u8 0, .int .u8 0, .int .u8 0, .int .u8 0, .int .u8 0, .int .u8 0, .int .u8 0, .int .u8 0, .int .u8 0, .int .u8 0, .int .u8 0, .int .u8 0, .int .u8 0, .int .u8 0, .int .u8 0] : Array Value) = zCase := rfl
theorem zCase_old {v : CV} {A : Option Addr} {m c : Nat} {Y : Option Addr} {n y : Nat} {H : Option Addr} {k h : Nat} (h1 : v.root.length = 16) (h2 : v.com.length = 16) (h3 : v.nonce.length = 16) : zCase.size = (caseC v A m c Y n y H k h).toArray.size := by
  show 55 = _
  rw [List.size_toArray, caseC_length h1 h2 h3]
/-- All blocks but one are kept. -/
def Keep1 (g : Nat) (w W : World) : Prop := ∀ k, k < w.heap.size → k ≠ g → W.heap[k]? = w.heap[k]?
theorem Keep1.cell {g : Nat} {w W : World} (h : Keep1 g w W) {p : Addr} {v : Value} (hp : p.block ≠ g) (hc : w.cell? p = some v) : W.cell? p = some v :=
  (World.cell?_of_block (w := w) (h _ (World.block_lt_of_cell? _ _ hc) hp)).trans hc
theorem Keep1.range {g : Nat} {w W : World} (h : Keep1 g w W) {b o : Nat} {cs : List Value} (hb : b ≠ g) (hc : w.rangeAt b o cs) : W.rangeAt b o cs := fun j v hv => h.cell hb (hc j v hv)
theorem Keep1.drew (g : Nat) (w : World) : Keep1 g w w.drew := fun _ _ _ => rfl
theorem Keep1.put (g : Nat) (w : World) (cs : Array Value) : Keep1 g w (w.drew.setRow g cs) := fun k _ hk => setRow_other w.drew g k cs hk
theorem reg_range {w : World} {g : Nat} {t : TypeId} {cl : List Value} {A : Option Addr} {n c : Nat} {N : Option Addr} {a d : Nat} {C : Option Addr} {b e : Nat} {root : List UInt8} (h : cl.length = 20) (hB : Blk w g t (regC cl A n c N a d C b e root).toArray) : w.rangeAt g 23 (cellsB root) := by
  refine rangeOf hB 23 _ ?_
  have e1 : regC cl A n c N a d C b e root = (cl ++ [.slice A n c, .slice N a d, .slice C b e]) ++ cellsB root := by simp [regC]
  rw [e1, List.drop_left' (by simp [h])]
  exact List.take_length
theorem KR.key_at {w : World} {A : Option Addr} {c : Nat} {ks : List (List UInt8)} (h : KR w A c ks) {i : Nat} (hi : i < ks.length) : ∃ b off, A = some ⟨b, off, none⟩ ∧ b < w.heap.size ∧ w.rangeAt b (off + i * 16) (cellsB (ks.getD i [])) := by
  obtain ⟨b, off, e, hb, hc⟩ := h.at_ hi
  refine ⟨b, off, e, hb, ?_⟩
  rw [List.getD_eq_getElem?_getD, List.getElem?_eq_getElem hi]
  exact hc
theorem KR.key_16 {w : World} {A : Option Addr} {c : Nat} {ks : List (List UInt8)} (h : KR w A c ks) {i : Nat} (hi : i < ks.length) : (ks.getD i []).length = 16 := by
  rw [List.getD_eq_getElem?_getD, List.getElem?_eq_getElem hi]
  exact h.2 _ (List.getElem_mem hi)
set_option maxHeartbeats 8000000 in
set_option maxRecDepth 100000 in
theorem accused_any (cl : List Value) (h20 : cl.length = 20) (A : Option Addr) (c : Nat) (rs : List BRow) (N : Option Addr) (a : Nat) (ns : List (List UInt8)) (C : Option Addr) (b : Nat) (L : List (List UInt8)) (rt : List UInt8) (u n : Nat) (Y : Option Addr) (ny d : Nat) (y : List UInt8) (need : Int) (r : BRow) (w0 : World)
    (hn : rs.length = n) (hnn : ns.length = n) (hnl : L.length = n) (hu : u < n) (h16 : n ≤ 128) (hrt : rt.length = 16) (hall : ∀ v ∈ cl, v.oneCell' = true) (hR0 : RR w0 A c rs) (hN0 : KR w0 N a ns) (hC0 : KR w0 C b L) (hr : rs[u]? = some r) :
    Calls Tryz.prog 10 #[.agg (regC cl A n c N n a C n b rt).toArray, .int .i64 (u : Int), .slice Y ny d, .int .i64 need] w0 fun e w' => (∃ A' c', e = .returned (.tuple #[.agg (caseC (⟨rt, L.getD u [], (n : Int), (u : Int), pathS L u, y, need, true, r.l, ns.getD u []⟩ : CV) A' (pathS L u).length c' Y ny d r.A r.l.length r.c).toArray, .bool true]) ∧ OK16 w0.heap.size w' A' c' (pathS L u)) ∧ Below w0.heap.size w0 w' := by
  have hui : (u : Int) < n := by omega
  have hu0 : (0 : Int) ≤ u := by omega
  obtain ⟨bA, oA, r', rfl, hbA, hr', hcr, -⟩ := hR0.at_ (i := u) (by omega)
  obtain rfl : r' = r := by rw [hr] at hr'; exact (Option.some.inj hr').symm
  obtain ⟨bN, oN, rfl, hbN, hcn⟩ := hN0.key_at (i := u) (by omega)
  obtain ⟨bC, oC, rfl, hbC, hcc⟩ := hC0.key_at (i := u) (by omega)
  obtain ⟨w, hW0⟩ : ∃ W : World, W = (w0.alloc (.cells (regC cl (some ⟨bA, oA, none⟩) n c (some ⟨bN, oN, none⟩) n a (some ⟨bC, oC, none⟩) n b rt).toArray 37)).alloc (.cells zCase 43) := ⟨_, rfl⟩
  have b0 : Hid (Below w0.heap.size w0 w) := by unfold Hid; rw [hW0]; exact alloc2_bel _ _ _
  have hB0 : Blk w w0.heap.size 37 (regC cl (some ⟨bA, oA, none⟩) n c (some ⟨bN, oN, none⟩) n a (some ⟨bC, oC, none⟩) n b rt).toArray := by rw [hW0]; exact blk_b0 _ _ _ _
  have hB1 : Blk w (w0.heap.size + 1) 43 zCase := by rw [hW0]; exact blk_b1 _ _ _ _
  obtain ⟨kc, hkc⟩ : ∃ q, L.getD u [] = q := ⟨_, rfl⟩
  obtain ⟨kn, hkn⟩ : ∃ q, ns.getD u [] = q := ⟨_, rfl⟩
  rw [hkc] at hcc ⊢
  rw [hkn] at hcn ⊢
  have HKC : Hid (kc.length = 16) := by rw [← hkc]; exact hC0.key_16 (by omega)
  have HKN : Hid (kn.length = 16) := by rw [← hkn]; exact hN0.key_16 (by omega)
  have HRT := Lib.hid hrt
  obtain ⟨P, hP⟩ : ∃ q, pathS L u = q := ⟨_, rfl⟩
  obtain ⟨m, hm⟩ : ∃ q, P.length = q := ⟨_, rfl⟩
  have HPV : Hid (∀ W, Below w.heap.size w W → Calls Tryz.prog 29 #[.slice (some ⟨bC, oC, none⟩) n b, .int .i64 (u : Int)] W fun e w' => (∃ A' c', e = .returned (.tuple #[.agg #[.int .i64 (n : Int), .int .i64 (u : Int), .slice A' m c'], .int .i64 0]) ∧ OK16 W.heap.size w' A' c' P) ∧ Below W.heap.size W w') := fun W hW => by
    have hCW : KR W (some ⟨bC, oC, none⟩) b L := (hC0.below b0.out).below hW
    refine (Prove_any L (u : Int) _ _ W hnl hCW).mono fun e w' hq => ?_
    obtain ⟨⟨A', c', h1, h2⟩, h3⟩ := hq
    have e1 : proveS L (u : Int) = ⟨(n : Int), (u : Int), P, 0⟩ := by
      unfold proveS
      rw [if_neg (by omega), if_neg (by omega), hnl, Int.toNat_natCast, hP]
    rw [e1] at h1 h2
    dsimp only at h1 h2
    rw [hm] at h1
    exact ⟨⟨A', c', h1, h2⟩, h3⟩
  have hcC : w.cell? ⟨w0.heap.size, 22, none⟩ = some (.slice (some ⟨bC, oC, none⟩) n b) := (hB0.cell 22).trans (by simpa using (regC_get cl h20 (some ⟨bA, oA, none⟩) n c (some ⟨bN, oN, none⟩) n a (some ⟨bC, oC, none⟩) n b rt).2.2)
  have hcN : w.cell? ⟨w0.heap.size, 21, none⟩ = some (.slice (some ⟨bN, oN, none⟩) n a) := (hB0.cell 21).trans (by simpa using (regC_get cl h20 (some ⟨bA, oA, none⟩) n c (some ⟨bN, oN, none⟩) n a (some ⟨bC, oC, none⟩) n b rt).2.1)
  have hcA : w.cell? ⟨w0.heap.size, 20, none⟩ = some (.slice (some ⟨bA, oA, none⟩) n c) := (hB0.cell 20).trans (by simpa using (regC_get cl h20 (some ⟨bA, oA, none⟩) n c (some ⟨bN, oN, none⟩) n a (some ⟨bC, oC, none⟩) n b rt).1)
  have hrr : w.rangeAt w0.heap.size 23 (cellsB rt) := reg_range h20 hB0
  have HBOX : Hid (∀ W, Below w.heap.size w W → (W.cell? ⟨w0.heap.size, 20, none⟩ = some (.slice (some ⟨bA, oA, none⟩) n c) ∧ W.cell? ⟨w0.heap.size, 21, none⟩ = some (.slice (some ⟨bN, oN, none⟩) n a) ∧ W.cell? ⟨w0.heap.size, 22, none⟩ = some (.slice (some ⟨bC, oC, none⟩) n b) ∧ W.rangeAt w0.heap.size 23 (cellsB rt) ∧ W.rangeAt bC (oC + u * 16) (cellsB kc) ∧ W.rangeAt bN (oN + u * 16) (cellsB kn) ∧ W.cell? ⟨bA, oA + u, none⟩ = some (.slice r'.A r'.l.length r'.c)) ∧ Blk W (w0.heap.size + 1) 43 zCase) := fun W hW => by
    have cc : ∀ p v, w.cell? p = some v → W.cell? p = some v := fun p v hv => (hW.cell (World.block_lt_of_cell? _ _ hv)).trans hv
    have c0 : ∀ p v, w0.cell? p = some v → W.cell? p = some v := fun p v hv => cc p v ((b0.out.cell (World.block_lt_of_cell? _ _ hv)).trans hv)
    exact ⟨⟨cc _ _ hcA, cc _ _ hcN, cc _ _ hcC, fun j v hv => cc _ _ (hrr j v hv), fun j v hv => c0 _ _ (hcc j v hv), fun j v hv => c0 _ _ (hcn j v hv), c0 _ _ hcr⟩, hB1.below' hW⟩
  have HNE : Hid (bC ≠ w0.heap.size + 1 ∧ bN ≠ w0.heap.size + 1 ∧ bA ≠ w0.heap.size + 1 ∧ w0.heap.size + 1 < w.heap.size) := ⟨by omega, by omega, by omega, hB1.lt⟩
  have HW0 := Lib.hid hW0
  obtain ⟨X, hX⟩ : ∃ q, r'.A = q := ⟨_, rfl⟩
  obtain ⟨k, hk⟩ : ∃ q, r'.l.length = q := ⟨_, rfl⟩
  obtain ⟨x, hx⟩ : ∃ q, r'.c = q := ⟨_, rfl⟩
  rw [hX, hk, hx] at HBOX ⊢
  rw [hP, hm]
  obtain ⟨v, hv⟩ : ∃ v : CV, v = ⟨rt, kc, (n : Int), (u : Int), P, y, need, true, r'.l, kn⟩ := ⟨_, rfl⟩
  have HV := Lib.hid hv
  rw [← hv]
  have HBU : Hid (∀ A' c', Tryz.prog.built 43 [(0, .agg (cellsB rt).toArray), (1, .agg (cellsB kc).toArray), (2, .agg #[.int .i64 (n : Int), .int .i64 (u : Int), .slice A' m c']), (3, .slice Y ny d), (4, .int .i64 need), (5, .bool true), (6, .slice X k x), (7, .agg (cellsB kn).toArray)] = some (caseC v A' m c' Y ny d X k x).toArray) := fun A' c' => by
    have := built_case v A' m c' Y ny d X k x (by rw [hv]; exact hrt) (by rw [hv]; exact HKC.out) (by rw [hv]; exact HKN.out)
    rw [hv] at this ⊢
    exact this
  have HINF : Hid (∀ A' c', (Tryz.prog.info? 43).map (·.size) = some (caseC v A' m c' Y ny d X k x).toArray.size) := fun A' c' => case_info (by rw [hv]; exact hrt) (by rw [hv]; exact HKC.out) (by rw [hv]; exact HKN.out)
  have HOLD : Hid (∀ A' c', zCase.size = (caseC v A' m c' Y ny d X k x).toArray.size) := fun A' c' => zCase_old (by rw [hv]; exact hrt) (by rw [hv]; exact HKC.out) (by rw [hv]; exact HKN.out)
  have hW : w.cell? ⟨w0.heap.size, 22, none⟩ = some (.slice (some ⟨bC, oC, none⟩) n b) := hcC
  clear hv hX hk hx hP hm hkc hkn hcC hcN hcA hrr hB0 hB1 hcr hcn hcc hR0 hN0 hC0 hr hr' hW0 hall hn hnn hnl hrt hbA hbN hbC
  go_enter Tryz.func10, Tryz.ntmps10
  go_wp2_with (first | (rw [zero55_, ← HW0.out]))
  --MARK 1
  refine (HPV.out _ (Below.refl _ _)).mono ?_
  rintro e w2 ⟨⟨A', c', rfl, hp2⟩, hb2⟩
  have K2 : Hid (Below w.heap.size w w2) := hb2
  have P2 := Lib.hid hp2
  clear hb2 hp2 hW
  go_wp2_with (first
    | (refine wpList_store_row rfl 41 (.tmp 10) (.tmp 17) rfl w2.heap.size #[.int .i64 (n : Int), .int .i64 (u : Int), .slice A' m c'] rfl rfl 41 #[.int .i64 0, .int .i64 0, .slice none 0 0] (Blk.new w2 _ _) (by kernel_rfl) rfl (by simp [Value.oneCell']) ?_; obtain ⟨w3, hV⟩ : ∃ W, W = (w2.alloc (.cells #[.int .i64 0, .int .i64 0, .slice none 0 0] 41)).setRow w2.heap.size #[.int .i64 (n : Int), .int .i64 (u : Int), .slice A' m c'] := ⟨_, rfl⟩; rw [← hV]; obtain ⟨g3, n3⟩ := keybox2_ _ _ _ _ hV; have J3 := Lib.hid g3; have T3 := Lib.hid n3; have K3 := Lib.hid (bel_on K2.out g3); have P3 := Lib.hid (P2.out.below g3); clear hV g3 n3))
  --MARK 2
  have HCB := Lib.hid (HBOX.out _ K3.out).2
  have HS : Hid (∀ W, Keep1 (w0.heap.size + 1) w3 W → W.cell? ⟨w0.heap.size, 20, none⟩ = some (.slice (some ⟨bA, oA, none⟩) n c) ∧ W.cell? ⟨w0.heap.size, 21, none⟩ = some (.slice (some ⟨bN, oN, none⟩) n a) ∧ W.cell? ⟨w0.heap.size, 22, none⟩ = some (.slice (some ⟨bC, oC, none⟩) n b) ∧ W.rangeAt w0.heap.size 23 (cellsB rt) ∧ W.rangeAt bC (oC + u * 16) (cellsB kc) ∧ W.rangeAt bN (oN + u * 16) (cellsB kn) ∧ W.cell? ⟨bA, oA + u, none⟩ = some (.slice X k x) ∧ W.rangeAt w2.heap.size 0 [.int .i64 (n : Int), .int .i64 (u : Int), .slice A' m c']) := fun W hK => by
    obtain ⟨⟨q0, q1, q2, q3, q4, q5, q6⟩, -⟩ := HBOX.out _ K3.out
    obtain ⟨n0, n1, n2, n3⟩ := HNE.out
    exact ⟨hK.cell (by simp) q0, hK.cell (by simp) q1, hK.cell (by simp) q2, hK.range (by omega) q3, hK.range n0 q4, hK.range n1 q5, hK.cell n2 q6, hK.range (by have := K2.out.size; omega) T3.out.range⟩
  refine wp_region_noPanic ?_
  refine wp_region_held_drew (S := fun W => W.cell? ⟨w0.heap.size, 20, none⟩ = some (.slice (some ⟨bA, oA, none⟩) n c) ∧ W.cell? ⟨w0.heap.size, 21, none⟩ = some (.slice (some ⟨bN, oN, none⟩) n a) ∧ W.cell? ⟨w0.heap.size, 22, none⟩ = some (.slice (some ⟨bC, oC, none⟩) n b) ∧ W.rangeAt w0.heap.size 23 (cellsB rt) ∧ W.rangeAt bC (oC + u * 16) (cellsB kc) ∧ W.rangeAt bN (oN + u * 16) (cellsB kn) ∧ W.cell? ⟨bA, oA + u, none⟩ = some (.slice X k x) ∧ W.rangeAt w2.heap.size 0 [.int .i64 (n : Int), .int .i64 (u : Int), .slice A' m c']) (by kernel_rfl) (HS.out _ (Keep1.drew _ _)) (fun hS => ?_)
  refine hd_take 0 (_) rfl rfl (by kernel_rfl) (by kernel_rfl) (by kernel_rfl) (fun _ _ _ h => h) (fun w hw => by go_simp <;> rfl) hS ?_
  simp only [List.getElem_toArray, List.getElem_cons_succ, List.getElem_cons_zero, Act.put, List.setIfInBounds_toArray, List.set_cons_zero, List.set_cons_succ]
  refine hd_load 1 (w0.heap.size) (23) (cellsB rt) _ _ rfl rfl rfl (by kernel_rfl) (by kernel_rfl) (by kernel_rfl) (fun _ _ _ h => h) rfl (fun w hw => hw.2.2.2.1) under_key rfl (key_info HRT.out) hS ?_
  simp only [List.getElem_toArray, List.getElem_cons_succ, List.getElem_cons_zero, Act.put, List.setIfInBounds_toArray, List.set_cons_zero, List.set_cons_succ]
  refine hd_take 2 (_) rfl rfl (by kernel_rfl) (by kernel_rfl) (by kernel_rfl) (fun _ _ _ h => h) (fun w hw => by go_simp <;> rfl) hS ?_
  simp only [List.getElem_toArray, List.getElem_cons_succ, List.getElem_cons_zero, Act.put, List.setIfInBounds_toArray, List.set_cons_zero, List.set_cons_succ]
  refine hd_take 3 (.slice (some ⟨bC, oC, none⟩) n b) rfl rfl (by kernel_rfl) (by kernel_rfl) (by kernel_rfl) (fun _ _ _ h => h) (fun w hw => by have hx := hw.2.2.1; simp [go_sem, hx]) hS ?_
  simp only [List.getElem_toArray, List.getElem_cons_succ, List.getElem_cons_zero, Act.put, List.setIfInBounds_toArray, List.set_cons_zero, List.set_cons_succ]
  refine hd_take 4 (_) rfl rfl (by kernel_rfl) (by kernel_rfl) (by kernel_rfl) (fun _ _ _ h => h) (fun w hw => by go_simp <;> rfl) hS ?_
  simp only [List.getElem_toArray, List.getElem_cons_succ, List.getElem_cons_zero, Act.put, List.setIfInBounds_toArray, List.set_cons_zero, List.set_cons_succ]
  refine hd_take 5 (_) rfl rfl (by kernel_rfl) (by kernel_rfl) (by kernel_rfl) (fun _ _ _ h => h) (fun w hw => by go_simp <;> rfl) hS ?_
  simp only [List.getElem_toArray, List.getElem_cons_succ, List.getElem_cons_zero, Act.put, List.setIfInBounds_toArray, List.set_cons_zero, List.set_cons_succ]
  refine hd_load 6 (bC) (oC + u * 16) (cellsB kc) _ _ rfl rfl rfl (by kernel_rfl) (by kernel_rfl) (by kernel_rfl) (fun _ _ _ h => h) rfl (fun w hw => hw.2.2.2.2.1) under_key rfl (key_info HKC.out) hS ?_
  simp only [List.getElem_toArray, List.getElem_cons_succ, List.getElem_cons_zero, Act.put, List.setIfInBounds_toArray, List.set_cons_zero, List.set_cons_succ]
  refine hd_load 7 (w2.heap.size) (0) ([.int .i64 (n : Int), .int .i64 (u : Int), .slice A' m c']) _ _ rfl rfl rfl (by kernel_rfl) (by kernel_rfl) (by kernel_rfl) (fun _ _ _ h => h) rfl (fun w hw => hw.2.2.2.2.2.2.2) Tryz.underlying41 rfl (by kernel_rfl) hS ?_
  simp only [List.getElem_toArray, List.getElem_cons_succ, List.getElem_cons_zero, Act.put, List.setIfInBounds_toArray, List.set_cons_zero, List.set_cons_succ]
  refine hd_take 8 (_) rfl rfl (by kernel_rfl) (by kernel_rfl) (by kernel_rfl) (fun _ _ _ h => h) (fun w hw => by go_simp <;> rfl) hS ?_
  simp only [List.getElem_toArray, List.getElem_cons_succ, List.getElem_cons_zero, Act.put, List.setIfInBounds_toArray, List.set_cons_zero, List.set_cons_succ]
  refine hd_take 9 (_) rfl rfl (by kernel_rfl) (by kernel_rfl) (by kernel_rfl) (fun _ _ _ h => h) (fun w hw => by go_simp <;> rfl) hS ?_
  simp only [List.getElem_toArray, List.getElem_cons_succ, List.getElem_cons_zero, Act.put, List.setIfInBounds_toArray, List.set_cons_zero, List.set_cons_succ]
  refine hd_take 10 (_) rfl rfl (by kernel_rfl) (by kernel_rfl) (by kernel_rfl) (fun _ _ _ h => h) (fun w hw => by go_simp <;> rfl) hS ?_
  simp only [List.getElem_toArray, List.getElem_cons_succ, List.getElem_cons_zero, Act.put, List.setIfInBounds_toArray, List.set_cons_zero, List.set_cons_succ]
  refine hd_take 11 (.slice (some ⟨bA, oA, none⟩) n c) rfl rfl (by kernel_rfl) (by kernel_rfl) (by kernel_rfl) (fun _ _ _ h => h) (fun w hw => by have hx := hw.1; simp [go_sem, hx]) hS ?_
  simp only [List.getElem_toArray, List.getElem_cons_succ, List.getElem_cons_zero, Act.put, List.setIfInBounds_toArray, List.set_cons_zero, List.set_cons_succ]
  refine hd_take 12 (_) rfl rfl (by kernel_rfl) (by kernel_rfl) (by kernel_rfl) (fun _ _ _ h => h) (fun w hw => by go_simp <;> rfl) hS ?_
  simp only [List.getElem_toArray, List.getElem_cons_succ, List.getElem_cons_zero, Act.put, List.setIfInBounds_toArray, List.set_cons_zero, List.set_cons_succ]
  refine hd_take 13 (_) rfl rfl (by kernel_rfl) (by kernel_rfl) (by kernel_rfl) (fun _ _ _ h => h) (fun w hw => by go_simp <;> rfl) hS ?_
  simp only [List.getElem_toArray, List.getElem_cons_succ, List.getElem_cons_zero, Act.put, List.setIfInBounds_toArray, List.set_cons_zero, List.set_cons_succ]
  refine hd_take 14 (.slice X k x) rfl rfl (by kernel_rfl) (by kernel_rfl) (by kernel_rfl) (fun _ _ _ h => h) (fun w hw => by have hx := hw.2.2.2.2.2.2.1; simp [go_sem, hx]) hS ?_
  simp only [List.getElem_toArray, List.getElem_cons_succ, List.getElem_cons_zero, Act.put, List.setIfInBounds_toArray, List.set_cons_zero, List.set_cons_succ]
  refine hd_take 15 (_) rfl rfl (by kernel_rfl) (by kernel_rfl) (by kernel_rfl) (fun _ _ _ h => h) (fun w hw => by go_simp <;> rfl) hS ?_
  simp only [List.getElem_toArray, List.getElem_cons_succ, List.getElem_cons_zero, Act.put, List.setIfInBounds_toArray, List.set_cons_zero, List.set_cons_succ]
  refine hd_take 16 (.slice (some ⟨bN, oN, none⟩) n a) rfl rfl (by kernel_rfl) (by kernel_rfl) (by kernel_rfl) (fun _ _ _ h => h) (fun w hw => by have hx := hw.2.1; simp [go_sem, hx]) hS ?_
  simp only [List.getElem_toArray, List.getElem_cons_succ, List.getElem_cons_zero, Act.put, List.setIfInBounds_toArray, List.set_cons_zero, List.set_cons_succ]
  refine hd_take 17 (_) rfl rfl (by kernel_rfl) (by kernel_rfl) (by kernel_rfl) (fun _ _ _ h => h) (fun w hw => by go_simp <;> rfl) hS ?_
  simp only [List.getElem_toArray, List.getElem_cons_succ, List.getElem_cons_zero, Act.put, List.setIfInBounds_toArray, List.set_cons_zero, List.set_cons_succ]
  refine hd_take 18 (_) rfl rfl (by kernel_rfl) (by kernel_rfl) (by kernel_rfl) (fun _ _ _ h => h) (fun w hw => by go_simp <;> rfl) hS ?_
  simp only [List.getElem_toArray, List.getElem_cons_succ, List.getElem_cons_zero, Act.put, List.setIfInBounds_toArray, List.set_cons_zero, List.set_cons_succ]
  refine hd_load 19 (bN) (oN + u * 16) (cellsB kn) _ _ rfl rfl rfl (by kernel_rfl) (by kernel_rfl) (by kernel_rfl) (fun _ _ _ h => h) rfl (fun w hw => hw.2.2.2.2.2.1) under_key rfl (key_info HKN.out) hS ?_
  simp only [List.getElem_toArray, List.getElem_cons_succ, List.getElem_cons_zero, Act.put, List.setIfInBounds_toArray, List.set_cons_zero, List.set_cons_succ]
  --MARK 3
  refine hd_build 20 43 #[(0, .tmp 20), (1, .tmp 25), (2, .tmp 26), (3, .tmp 27), (4, .tmp 28), (5, .const (.bool true)), (6, .tmp 33), (7, .tmp 38)] _ (caseC v A' m c' Y ny d X k x).toArray rfl rfl rfl (by kernel_rfl) (by kernel_rfl) (by kernel_rfl) (fun _ _ _ h => h) (by kernel_rfl) (HBU.out A' c') hS ?_
  simp only [List.getElem_toArray, List.getElem_cons_succ, List.getElem_cons_zero, Act.put, List.setIfInBounds_toArray, List.set_cons_zero, List.set_cons_succ]
  refine hd_take 21 (_) rfl rfl (by kernel_rfl) (by kernel_rfl) (by kernel_rfl) (fun _ _ _ h => h) (fun w hw => by go_simp <;> rfl) hS ?_
  simp only [List.getElem_toArray, List.getElem_cons_succ, List.getElem_cons_zero, Act.put, List.setIfInBounds_toArray, List.set_cons_zero, List.set_cons_succ]
  refine hd_take 22 (_) rfl rfl (by kernel_rfl) (by kernel_rfl) (by kernel_rfl) (fun _ _ _ h => h) (fun w hw => by go_simp <;> rfl) hS ?_
  simp only [List.getElem_toArray, List.getElem_cons_succ, List.getElem_cons_zero, Act.put, List.setIfInBounds_toArray, List.set_cons_zero, List.set_cons_succ]
  --MARK 4
  refine hd_store 23 (w0.heap.size + 1) (caseC v A' m c' Y ny d X k x).toArray _ _ _ rfl rfl rfl (by kernel_rfl) rfl rfl (HCB.out : Blk w3.drew (w0.heap.size + 1) 43 zCase) (HINF.out A' c') (HOLD.out A' c') (by simpa using caseC_all _ _ _ _ _ _ _ _ _ _) (HS.out _ (Keep1.put _ _ _)) ?_
  simp only [List.getElem_toArray, List.getElem_cons_succ, List.getElem_cons_zero, Act.put, List.setIfInBounds_toArray, List.set_cons_zero, List.set_cons_succ]
  --MARK 5
  refine hd_take 24 (_) rfl rfl (by kernel_rfl) (by kernel_rfl) (by kernel_rfl) (fun _ _ _ h => h) (fun w hw => by go_simp <;> rfl) (HS.out _ (Keep1.put _ _ _)) ?_
  simp only [List.getElem_toArray, List.getElem_cons_succ, List.getElem_cons_zero, Act.put, List.setIfInBounds_toArray, List.set_cons_zero, List.set_cons_succ]
  refine wpAnyH_done (by kernel_rfl) (NoPanic.normal ?_) _
  --MARK 6
  go_wp2_with fail
  have b1 := bel_on b0.out K3.out
  refine bodyPost_ret (v := .tuple #[.agg (caseC v A' m c' Y ny d X k x).toArray, .bool true]) ?_ rfl ⟨⟨A', c', rfl, ?_⟩, ?_⟩
  · rw [results_cell_tmp Tryz.results10]
    have hlv := run_loadVar_row (P := Tryz.prog) _ (w0.heap.size + 1) _ _ _ (0, 0) _ (Blk.setRow (w := w3.drew) (HCB.out : Blk w3.drew (w0.heap.size + 1) 43 zCase) (caseC v A' m c' Y ny d X k x).toArray) Tryz.underlying43 rfl (HINF.out A' c')
    simp only [asAddr, Result.andThen]
    simp
    rw [hlv]
  · exact ((P3.out.below (Below.refl _ w3).drew).low_r HNE.out.2.2.2 _).le_ b0.out.size
  · exact below_setRow (b1.drew) (by omega) _
end Go.Proofs.YtchnaimpmegbkaaGreatDoor

/- Cases from a register, and coalitions with halves: in plain words. -/
namespace Go.Proofs.YtchnaimpmegbkaaGreatDoor
open Go.RowKit
set_option linter.unusedVariables false
set_option linter.unusedSimpArgs false

/-- The case that the register gives, with some commitment and some opening. -/
def regV (l : List (List UInt8)) (n j : Nat) (com y : List UInt8) (need : Int) (half nonce : List UInt8) : CV := ⟨rootS l, com, (n : Int), (j : Int), pathS l j, y, need, true, half, nonce⟩
theorem reg_fit {l : List (List UInt8)} {n j : Nat} {com y : List UInt8} {need : Int} {half nonce : List UInt8} (hn : l.length = n) (hj : j < n) (h128 : n ≤ 128) (hy : halfB y 2 = true) (h1 : 1 ≤ need) (h2 : need ≤ (y.length : Int)) :
    fitB (regV l n j com y need half nonce) = true := by
  refine fitB_iff.2 ⟨hy, h1, h2, fitsB_iff.2 ⟨⟨?_, ?_, ?_, ?_⟩, ?_⟩⟩
  · show (1 : Int) ≤ (n : Int); omega
  · show (n : Int) ≤ 128; omega
  · show (0 : Int) ≤ (j : Int); omega
  · show (j : Int) < (n : Int); omega
  · show (pathS l j).length = stepsS (n : Int).toNat (j : Int).toNat
    rw [Int.toNat_natCast, Int.toNat_natCast, pathS_steps n l j hn]
theorem reg_gives {l : List (List UInt8)} {n j : Nat} {com y : List UInt8} {need : Int} {half nonce : List UInt8} (hn : l.length = n) (hj : j < n) (hc : l.getD j [] = com) : givesB (regV l n j com y need half nonce) = true := by
  have := climb_path n l j hn hj
  rw [hc] at this
  show ((climbS com (n : Int).toNat (j : Int).toNat (pathS l j)).1 == rootS l) = true
  rw [Int.toNat_natCast, Int.toNat_natCast, this]
  exact beq_self_eq_true _
theorem copy_half {y : List UInt8} {m : Nat} (h : copyB y m = true) (h1 : 1 ≤ m) (h2 : m ≤ 64) : halfB y 2 = true := by
  have hcc : y.length = m ∧ symB y 2 = true := by simpa [copyB] using h
  exact halfB_iff.2 ⟨⟨by omega, by omega⟩, hcc.2⟩
theorem reg_honest {l : List (List UInt8)} {n j : Nat} {y : List UInt8} {need : Int} {half nonce : List UInt8} (hn : l.length = n) (hj : j < n) (h128 : n ≤ 128) (hc : l.getD j [] = digS (openT half nonce)) (hh : halfB half 1 = true) (hy : copyB y half.length = true) (h1 : 1 ≤ need) (h2 : need ≤ (y.length : Int)) :
    judgeS (regV l n j (digS (openT half nonce)) y need half nonce) = (if need ≤ (agreeN half y y.length : Int) then 3 else 4, 0) := by
  obtain ⟨⟨a1, a2⟩, a3⟩ := halfB_iff.1 hh
  have hcc : y.length = half.length ∧ symB y 2 = true := by simpa [copyB] using hy
  have hfit := reg_fit (com := digS (openT half nonce)) (half := half) (nonce := nonce) hn hj h128 (copy_half hy a1 a2) h1 h2
  have hg := reg_gives (y := y) (need := need) (half := half) (nonce := nonce) hn hj hc
  have ho : opensB (regV l n j (digS (openT half nonce)) y need half nonce) = true := by
    show (true && (decide (half.length = y.length) && (halfB half 1 && (digS (openT half nonce) == digS (openT half nonce))))) = true
    rw [hh, beq_self_eq_true, decide_eq_true hcc.1.symm]
    rfl
  by_cases hx : need ≤ (agreeN half y y.length : Int)
  · rw [if_pos hx]; exact judge_3 hfit hg ho (decide_eq_true hx)
  · rw [if_neg hx]; exact judge_4 hfit hg ho (decide_eq_false hx)
/-- How many of the first places are readable. -/
def readN (t : List UInt8) : Nat → Nat
  | 0 => 0
  | i + 1 => readN t i + if bt t i = 2 then 0 else 1
/-- Agreements of all members, summed. -/
def sumG (f : Nat → Nat) : List Nat → Nat
  | [] => 0
  | x :: xs => f x + sumG f xs
theorem sumG_le {f g : Nat → Nat} : ∀ {xs : List Nat}, (∀ x ∈ xs, f x ≤ g x) → sumG f xs ≤ sumG g xs
  | [], _ => Nat.le_refl _
  | x :: xs, h => Nat.add_le_add (h x List.mem_cons_self) (sumG_le fun y hy => h y (List.mem_cons_of_mem _ hy))
theorem sumG_lt {f g : Nat → Nat} : ∀ {xs : List Nat} {x : Nat}, x ∈ xs → f x + 1 ≤ g x → (∀ x ∈ xs, f x ≤ g x) → sumG f xs + 1 ≤ sumG g xs
  | z :: xs, x, hx, h1, h => by
    rcases List.mem_cons.1 hx with rfl | hx
    · have := sumG_le (f := f) (g := g) (xs := xs) fun y hy => h y (List.mem_cons_of_mem _ hy)
      simp only [sumG]; omega
    · have := sumG_lt hx h1 fun y hy => h y (List.mem_cons_of_mem _ hy)
      have := h z List.mem_cons_self
      simp only [sumG]; omega
theorem sumG_bound {f : Nat → Nat} {k : Nat} : ∀ {xs : List Nat}, (∀ x ∈ xs, f x ≤ k) → sumG f xs ≤ k * xs.length
  | [], _ => by simp [sumG]
  | x :: xs, h => by
    have := sumG_bound (f := f) (k := k) (xs := xs) fun y hy => h y (List.mem_cons_of_mem _ hy)
    have := h x List.mem_cons_self
    simp only [sumG, List.length_cons, Nat.mul_add, Nat.mul_one]; omega
theorem agreeN_mono (x y : List UInt8) (i : Nat) : agreeN x y i ≤ agreeN x y (i + 1) := by
  by_cases h : bt x i = bt y i
  · rw [agreeN_yes h]; omega
  · rw [agreeN_no h]; exact Nat.le_refl _
theorem read_le {hv : Nat → List UInt8} {xs : List Nat} {t : List UInt8} : ∀ {m : Nat}, (∀ i, i < m → bt t i ≠ 2 → ∃ x ∈ xs, bt (hv x) i = bt t i) → readN t m ≤ sumG (fun x => agreeN (hv x) t m) xs
  | 0, _ => Nat.zero_le _
  | m + 1, h => by
    have ih := read_le (hv := hv) (xs := xs) (t := t) (m := m) fun i hi => h i (by omega)
    have h1 : sumG (fun x => agreeN (hv x) t m) xs ≤ sumG (fun x => agreeN (hv x) t (m + 1)) xs := sumG_le fun x _ => agreeN_mono _ _ _
    rw [readN]
    by_cases e : bt t m = 2
    · rw [if_pos e]; omega
    · rw [if_neg e]
      obtain ⟨x, hx, he⟩ := h m (by omega) e
      have h2 := sumG_lt (f := fun x => agreeN (hv x) t m) (g := fun x => agreeN (hv x) t (m + 1)) hx (by show agreeN (hv x) t m + 1 ≤ agreeN (hv x) t (m + 1); rw [agreeN_yes he]; omega) fun x _ => agreeN_mono _ _ _
      omega
/-- More readable places than the members can miss: one of them agrees often enough. -/
theorem read_member {hv : Nat → List UInt8} {xs : List Nat} {t : List UInt8} {m need : Nat} (h : ∀ i, i < m → bt t i ≠ 2 → ∃ x ∈ xs, bt (hv x) i = bt t i) (h1 : 1 ≤ need) (hr : (need - 1) * xs.length < readN t m) : ∃ x ∈ xs, need ≤ agreeN (hv x) t m := by
  apply Classical.byContradiction
  intro hno
  have h2 := read_le h
  have h3 : sumG (fun x => agreeN (hv x) t m) xs ≤ (need - 1) * xs.length := sumG_bound fun x hx => by
    have : ¬ need ≤ agreeN (hv x) t m := fun g => hno ⟨x, hx, g⟩
    show agreeN (hv x) t m ≤ need - 1
    omega
  omega
theorem bt_drop (l : List UInt8) (n i : Nat) : bt (l.drop n) i = bt l (n + i) := by
  unfold bt
  rw [List.getD_eq_getElem?_getD, List.getD_eq_getElem?_getD, List.getElem?_drop]
theorem bt_ge {l : List UInt8} {i : Nat} (h : l.length ≤ i) : bt l i = 0 := by
  unfold bt
  rw [List.getD_eq_getElem?_getD, List.getElem?_eq_none h]; rfl
theorem bt_append_right (a b : List UInt8) {n : Nat} (h : a.length = n) (i : Nat) : bt (a ++ b) (n + i) = bt b i := by
  subst h
  unfold bt
  rw [List.getD_eq_getElem?_getD, List.getD_eq_getElem?_getD, List.getElem?_append_right (by omega), Nat.add_sub_cancel_left]
theorem hd_map {f : Nat → List UInt8} {xs : List Nat} (h : 0 < xs.length) : hd (xs.map f) = f xs[0] := by
  unfold hd
  rw [List.getD_eq_getElem?_getD, List.getElem?_eq_getElem (by simpa using h), List.getElem_map]; rfl
/-- A readable place of what a coalition makes is one of its members' symbol. -/
theorem bring_member {wd : Nat → List UInt8} {xs : List Nat} {y : List UInt8} {N j : Nat} (hne : 0 < xs.length) (hj : j < N) (hb : ∀ x ∈ xs, bt (wd x) j ≤ 1) (hy : bt y j ≤ 2) (h2 : bt (bring (xs.map wd) y N N) j ≠ 2) :
    ∃ x ∈ xs, bt (wd x) j = bt (bring (xs.map wd) y N N) j := by
  have e0 : bt (bring (xs.map wd) y N N) j = if agreeK (xs.map wd) j (xs.map wd).length = true then bt (hd (xs.map wd)) j else bt y j := by
    unfold bt
    rw [bring_get _ _ _ _ _ hj]
    by_cases h : agreeK (xs.map wd) j (xs.map wd).length = true
    · rw [if_pos ⟨hj, h⟩, if_pos h]
    · rw [if_neg (fun g => h g.2), if_neg h]
  rw [e0] at h2 ⊢
  have hm : xs[0] ∈ xs := List.getElem_mem hne
  by_cases h : agreeK (xs.map wd) j (xs.map wd).length = true
  · rw [if_pos h]
    exact ⟨xs[0], hm, by rw [hd_map hne]⟩
  · rw [if_neg h] at h2 ⊢
    have hq : ∃ k, k < (xs.map wd).length ∧ bt ((xs.map wd).getD k []) j ≠ bt (hd (xs.map wd)) j := by
      apply Classical.byContradiction
      intro hno
      refine h (agreeK_iff.2 fun k hk => ?_)
      apply Classical.byContradiction
      exact fun g => hno ⟨k, hk, g⟩
    obtain ⟨k, hk, hne2⟩ := hq
    have hk2 : k < xs.length := by simpa using hk
    rw [hd_map hne, List.getD_eq_getElem?_getD, List.getElem?_eq_getElem hk, List.getElem_map, Option.getD_some] at hne2
    have b0 := hb _ hm
    have b1 := hb _ (List.getElem_mem hk2)
    by_cases e : bt (wd xs[0]) j = bt y j
    · exact ⟨_, hm, e⟩
    · exact ⟨_, List.getElem_mem hk2, by omega⟩
theorem bring_lone {w y : List UInt8} {N : Nat} (h : w.length = N) : bring [w] y N N = w := by
  refine List.ext_getElem (by rw [bring_len, h]) fun j h1 h2 => ?_
  have hj : j < N := by rw [bring_len] at h1; exact h1
  have e := bring_get [w] y N N j hj
  rw [if_pos ⟨hj, agreeK_iff.2 fun k hk => by
    have : k = 0 := by simpa using hk
    subst this; rfl⟩] at e
  rw [List.getD_eq_getElem?_getD, List.getElem?_eq_getElem h1] at e
  have e2 : (hd [w]).getD j 0 = w[j] := by
    show (w.getD j 0) = _
    rw [List.getD_eq_getElem?_getD, List.getElem?_eq_getElem h2]; rfl
  rw [e2] at e
  exact e
theorem agreeN_self (x : List UInt8) : ∀ m, agreeN x x m = m
  | 0 => rfl
  | m + 1 => by rw [agreeN_yes rfl, agreeN_self x m]
end Go.Proofs.YtchnaimpmegbkaaGreatDoor

/- Verdicts on the cases of a register, and the examples' values, in plain words. -/
namespace Go.Proofs.YtchnaimpmegbkaaGreatDoor
open Go.RowKit
set_option linter.unusedVariables false
set_option linter.unusedSimpArgs false

/-- The case that a register gives against a user. -/
def ownV (K : List UInt8) (hs : List (List UInt8)) (n u : Nat) (y : List UInt8) (need : Int) : CV := ⟨rootS (comsF K hs n), (comsF K hs n).getD u [], (n : Int), (u : Int), pathS (comsF K hs n) u, y, need, true, hs.getD u [], (nonsF K n).getD u []⟩
theorem ownV_reg {K : List UInt8} {hs : List (List UInt8)} {n u : Nat} {y : List UInt8} {need : Int} (hu : u < n) : ownV K hs n u y need = regV (comsF K hs n) n u (digS (openT (hs.getD u []) (nonF K u))) y need (hs.getD u []) (nonF K u) := by
  unfold ownV regV
  rw [comsF_get K hs hu, nonsF_get K hu]
  rfl
theorem judge_own {K : List UInt8} {hs : List (List UInt8)} {n u : Nat} {y : List UInt8} {need : Int} (hu : u < n) (h128 : n ≤ 128) (hh : halfB (hs.getD u []) 1 = true) (hy : copyB y (hs.getD u []).length = true) (h1 : 1 ≤ need) (h2 : need ≤ (y.length : Int)) :
    judgeS (ownV K hs n u y need) = (if need ≤ (agreeN (hs.getD u []) y y.length : Int) then 3 else 4, 0) := by
  rw [ownV_reg hu]
  exact reg_honest (comsF_len K hs n) hu h128 (comsF_get K hs hu) hh hy h1 h2
def ak1 : List UInt8 := [1, 0, 0, 0, 0, 0, 0, 0, 0, 0, 0, 0, 0, 0, 0, 0]
def ak2 : List UInt8 := [2, 0, 0, 0, 0, 0, 0, 0, 0, 0, 0, 0, 0, 0, 0, 0]
/-- The example's code. -/
def aliveV (A : Option Addr) (ca : Nat) (Bd : Option Addr) (cb : Nat) : StV := ⟨3, 2, ak1, A, ca, (lowS 1 6).1, Bd, cb, (lowS 1 6).2⟩
section
variable (A : Option Addr) (ca : Nat) (Bd : Option Addr) (cb : Nat)
theorem alive_ok_ : (aliveV A ca Bd cb).ok = true := by kernel_rfl
theorem alive_n_ : (aliveV A ca Bd cb).n = 4 := by kernel_rfl
theorem alive_nms_ : (aliveV A ca Bd cb).nms ((aliveV A ca Bd cb).word 1) = [1] :=
  lone_names (d := 2) (m := 2) (x := 1) (alive_ok_ A ca Bd cb) rfl rfl (alive_n_ A ca Bd cb) (by omega) (by omega) (by omega) (of_decide_eq_true (by kernel_rfl))
end
def ahs : List (List UInt8) := [[0, 0, 1], [1, 0, 1], [1, 1, 0]]
theorem judge_ex1 : judgeS (ownV ak2 ahs 3 1 [1, 0, 1] 3) = (3, 0) := by
  rw [judge_own (by omega) (by omega) (by decide +kernel) (by decide +kernel) (by omega) (by decide)]
  rw [if_pos (by decide +kernel)]
theorem judge_ex2 : judgeS (ownV ak2 ahs 3 2 [1, 0, 1] 2) = (4, 0) := by
  rw [judge_own (by omega) (by omega) (by decide +kernel) (by decide +kernel) (by omega) (by decide)]
  rw [if_neg (by decide +kernel)]
theorem own_caseOK {B : Nat} {w : World} {K : List UInt8} {hs : List (List UInt8)} {n u : Nat} {y : List UInt8} {need : Int} {A' : Option Addr} {c' : Nat} {Y : Option Addr} {ny d : Nat} {H : Option Addr} {k h : Nat} (hu : u < n) (h128 : n ≤ 128) (hK : K.length = 16) (hp : OK16 B w A' c' (pathS (comsF K hs n) u)) (hny : y.length = ny) (hY : BR w Y d y) (hk : (hs.getD u []).length = k) (hH : BR w H h (hs.getD u [])) :
    CaseOK w (ownV K hs n u y need) A' (pathS (comsF K hs n) u).length c' Y ny d H k h :=
  ⟨rootS_length _, by show ((comsF K hs n).getD u []).length = 16; rw [comsF_get K hs hu]; exact comF_length K hs u, by show ((nonsF K n).getD u []).length = 16; rw [nonsF_get K hu]; exact nonF_length K hK u, rfl, hny, hk,
    hp.kr (pathS_k16_ n _ u (comsF_len K hs n)) (by have := pathS_kle_ n (comsF K hs n) u (comsF_len K hs n); omega), hY, hH⟩
end Go.Proofs.YtchnaimpmegbkaaGreatDoor

/- The case against a customer, as the register gives it: what is in it, in plain words. -/
namespace Go.Proofs.YtchnaimpmegbkaaGreatDoor
open Go.RowKit
set_option linter.unusedVariables false
set_option linter.unusedSimpArgs false

theorem accused_own {cl : List Value} (h20 : cl.length = 20) (hall : ∀ v ∈ cl, v.oneCell' = true) {A : Option Addr} {c : Nat} {rs : List BRow} {K : List UInt8} {hs : List (List UInt8)} {N : Option Addr} {a : Nat} {C : Option Addr} {b u n : Nat} {Y : Option Addr} {ny d : Nat} {y : List UInt8} {need : Int} {r : BRow} {W : World} {m : Nat}
    (hhs : rs.map BRow.l = hs) (hn : rs.length = n) (hu : u < n) (h128 : n ≤ 128) (hK : K.length = 16) (hR : RR W A c rs) (hN : KR W N a (nonsF K n)) (hC : KR W C b (comsF K hs n)) (hr : rs[u]? = some r) (hny : y.length = ny) (hY : BR W Y d y) (hm : (pathS (comsF K hs n) u).length = m) :
    Calls Tryz.prog 10 #[.agg (regC cl A n c N n a C n b (rootS (comsF K hs n))).toArray, .int .i64 (u : Int), .slice Y ny d, .int .i64 need] W fun e w' => (∃ A' c', e = .returned (.tuple #[.agg (caseC (ownV K hs n u y need) A' m c' Y ny d r.A r.l.length r.c).toArray, .bool true]) ∧ CaseOK w' (ownV K hs n u y need) A' m c' Y ny d r.A r.l.length r.c) ∧ Below W.heap.size W w' := by
  have hrl : hs.getD u [] = r.l := by rw [← hhs]; exact row_l hr
  refine (accused_any cl h20 A c rs N a (nonsF K n) C b (comsF K hs n) (rootS (comsF K hs n)) u n Y ny d y need r W hn (nonsF_len _ _) (comsF_len _ _ _) hu h128 (rootS_length _) hall hR hN hC hr).mono fun e w' hq => ?_
  obtain ⟨⟨A', c', h1, h2⟩, h3⟩ := hq
  have e1 : (⟨rootS (comsF K hs n), (comsF K hs n).getD u [], (n : Int), (u : Int), pathS (comsF K hs n) u, y, need, true, r.l, (nonsF K n).getD u []⟩ : CV) = ownV K hs n u y need := by
    unfold ownV
    rw [hrl]
  rw [e1, hm] at h1
  have hk := own_caseOK (need := need) (Y := Y) (ny := ny) (d := d) (H := r.A) (k := r.l.length) (h := r.c) hu h128 hK h2 hny (hY.below h3) (by rw [hrl]) (by rw [hrl]; exact (hR.2 r (List.mem_of_getElem? hr)).below h3)
  rw [hm] at hk
  exact ⟨⟨A', c', h1, hk⟩, h3⟩
end Go.Proofs.YtchnaimpmegbkaaGreatDoor

/- The example's code: what its calls return. -/
namespace Go.Proofs.YtchnaimpmegbkaaGreatDoor
open Go.RowKit
set_option linter.unusedVariables false
set_option linter.unusedSimpArgs false

theorem alive_cs_ (X : Option Addr) (x : Nat) (Y : Option Addr) (y : Nat) {l1 l6 : Nat} (h1 : (lowS 1 6).1.length = l1) (h6 : (lowS 1 6).2.length = l6) : (aliveV X x Y y).cs.toArray = #[.int .i64 3, .int .i64 2, .int .u8 1, .int .u8 0, .int .u8 0, .int .u8 0, .int .u8 0, .int .u8 0, .int .u8 0, .int .u8 0, .int .u8 0, .int .u8 0, .int .u8 0, .int .u8 0, .int .u8 0, .int .u8 0, .int .u8 0, .int .u8 0, .slice X l1 x, .slice Y l6 y] := by
  subst h1 h6
  unfold aliveV StV.cs
  generalize (lowS 1 6).1 = a
  generalize (lowS 1 6).2 = b
  rfl
theorem alive_wordR {s : StV} (hok : s.ok = true) (hu : s.u = 3) : s.wordR 1 = (s.word 1, 0) := by
  unfold StV.wordR
  rw [hok, hu, if_neg (by simp), if_neg (by omega)]
  rfl
theorem alive_stepWord {sv : StV} {W : World} (h : StOK W sv) (hok : sv.ok = true) (hu : sv.u = 3) (hn : sv.n = 4) : Calls Tryz.prog 15 #[.agg sv.cs.toArray, .int .i64 1] W fun e w' => (∃ A c, e = .returned (.tuple #[.slice A 4 c, .int .i64 0]) ∧ BR w' A c (sv.word 1)) ∧ Below W.heap.size W w' := by
  refine (StepWord_any sv 1 W h (by omega) (by omega)).mono fun e w' hq => ?_
  obtain ⟨⟨A, c, h1, h2⟩, h3⟩ := hq
  rw [alive_wordR hok hu] at h1 h2
  dsimp only at h1 h2
  rw [sv.word_len, hn] at h1
  exact ⟨⟨A, c, h1, h2⟩, h3⟩
theorem alive_trace {sv : StV} {W : World} {Z : Option Addr} {z : Nat} (h : StOK W sv) (hok : sv.ok = true) (hn : sv.n = 4) (hnm : sv.nms (sv.word 1) = [1]) (hZ : BR W Z z (sv.word 1)) : Calls Tryz.prog 18 #[.agg sv.cs.toArray, .slice Z 4 z] W fun e w' => (∃ A c, e = .returned (.tuple #[.slice A 1 c, .int .i64 0]) ∧ IR w' A c [1]) ∧ Below W.heap.size W w' := by
  have h4 : (sv.word 1).length = 4 := by rw [sv.word_len, hn]
  refine (TraceSteps_any sv Z z _ W h h4 hZ).mono fun e w' hq => ?_
  obtain ⟨⟨A, c, h1, h2⟩, h3⟩ := hq
  have e1 : sv.nmsR (sv.word 1) = ([1], 0) := by
    have e2 := sv.word_cp 1
    unfold StV.nmsR
    rw [if_neg (by rw [hok]; simp), if_neg (by rw [e2]; simp), hnm]
  rw [e1] at h1 h2
  exact ⟨⟨A, c, h1, h2⟩, h3⟩
theorem alive_reg {sv : StV} {W : World} {A : Option Addr} {rs : List BRow} (h : StOK W sv) (hR : RR W A 3 rs) (hrs : rs.map BRow.l = ahs) : Calls Tryz.prog 9 #[.agg sv.cs.toArray, .slice A 3 3, .agg #[.int .u8 2, .int .u8 0, .int .u8 0, .int .u8 0, .int .u8 0, .int .u8 0, .int .u8 0, .int .u8 0, .int .u8 0, .int .u8 0, .int .u8 0, .int .u8 0, .int .u8 0, .int .u8 0, .int .u8 0, .int .u8 0]] W fun e w' => (∃ N a C b, e = .returned (.tuple #[.agg (regC sv.cs A 3 3 N 3 a C 3 b (rootS (comsF ak2 ahs 3))).toArray, .bool true]) ∧ OK16 W.heap.size w' N a (nonsF ak2 3) ∧ OK16 W.heap.size w' C b (comsF ak2 ahs 3)) ∧ Below W.heap.size W w' := by
  have hl : rs.length = 3 := by rw [← List.length_map (f := BRow.l), hrs]; rfl
  have ha : ∀ r ∈ rs, halfB r.l 1 = true := fun r hr => by
    have : r.l ∈ ahs := by rw [← hrs]; exact List.mem_map.2 ⟨r, hr, rfl⟩
    simp only [ahs, List.mem_cons, List.not_mem_nil, or_false] at this
    rcases this with e | e | e <;> rw [e] <;> decide +kernel
  have := registered_any sv A 3 rs ak2 W hl h hR ha rfl (by omega) (by omega)
  rw [hrs] at this
  exact this
end Go.Proofs.YtchnaimpmegbkaaGreatDoor
