/-
  Lemmas and contracts, joined: part 5.
-/
import Derived.Shelf.RegionOpenPlain
import Derived.Shelf.GgSortFunc.RowK
import Derived.Sort.WalkB12
import Derived.Lib.SlicesMore
import Derived.Lib.OwnBridge
import Derived.Deep.LoopGhost
import Derived.Laws.Cells
import Derived.Lib.AppendZerosOnto
import Derived.Laws.ResultCell
import Derived.Great.BuildSlice
import Derived.Laws.CopyOwn
import Derived.Test.YtinpiodfpnbllaaShelf
import Derived.Lib.ItoaNum
import Derived.Test.YtinpiodfpnbllaaAuditListsB4
set_option linter.unusedSimpArgs false
set_option linter.unusedVariables false
set_option linter.unnecessarySimpa false
/- A list of keys that the call owns, turned round. -/
namespace Go.Proofs.Ytinpiodfpnbllaa
open Go.RowKit Go.Sort
set_option linter.unusedVariables false

def encK (k : List UInt8) : List Value := cellsB (padK k)
theorem encK_length (k : List UInt8) : (encK k).length = 16 := by rw [encK, cellsB_length, padK_length]
theorem encK_16 {k : List UInt8} (h : k.length = 16) : encK k = cellsB k := by rw [encK, padK_16 h]
theorem flatK_keys {ks : List (List UInt8)} (h : Keys16 ks) : flatK encK 16 ks.toArray = (cellsK ks).toArray := by
  have hl := cellsK_length h
  refine ext_get! (by simp [hl]) fun t ht => ?_
  have ht' : t < ks.length * 16 := by simpa using ht
  have hi : t / 16 < ks.length := by omega
  have hk : ks[t / 16].length = 16 := h _ (List.getElem_mem hi)
  rw [get_flatK _ _ _ _ (by simpa using ht')]
  have e1 : ks.toArray[t / 16]! = ks[t / 16] := by rw [getElem!_pos ks.toArray (t / 16) (by simpa using hi)]; simp
  have hm : t % 16 < (cellsB ks[t / 16]).length := by rw [cellsB_length, hk]; omega
  rw [e1, encK_16 hk, getElem!_pos (cellsB ks[t / 16]) (t % 16) hm, getElem!_pos (cellsK ks).toArray t (by simp [hl]; omega)]
  have h1 := cellsK_drop h (t / 16) (by omega)
  have h2 : ((cellsK ks).drop (t / 16 * 16))[t % 16]? = (cellsB ks[t / 16])[t % 16]? := by
    rw [h1, List.drop_eq_getElem_cons hi]
    unfold cellsK
    rw [List.flatMap_cons, List.getElem?_append_left hm]
  rw [List.getElem?_drop, show t / 16 * 16 + t % 16 = t by omega, List.getElem?_eq_getElem (by omega), List.getElem?_eq_getElem hm] at h2
  simpa using (Option.some.inj h2).symm
theorem Keys16.reverse {ks : List (List UInt8)} (h : Keys16 ks) : Keys16 ks.reverse := fun k hk => h k (List.mem_reverse.1 hk)

theorem holds_of_OK16 {B : Nat} {w : World} {A : Option Addr} {c : Nat} {ks : List (List UInt8)} (h : OK16 B w A c ks) (hk : Keys16 ks) (h0 : ks ≠ []) : ∃ g, A = some ⟨g, 0, none⟩ ∧ B ≤ g ∧ g < w.heap.size ∧ HoldsK encK 16 w g 0 ks.toArray := by
  rcases h.2 with ⟨_, e0⟩ | ⟨g, cap, cur, e0, hb, hg, hn, hm, hs, ht⟩
  · exact absurd (List.eq_nil_of_length_eq_zero e0) h0
  · injection e0 with e1 _ e3
    subst e3
    have hlt : g < w.heap.size := by
      rcases Nat.lt_or_ge g w.heap.size with h' | h'
      · exact h'
      · rw [Array.getElem?_eq_none h'] at hg; cases hg
    refine ⟨g, e1, hb, hlt, ?_⟩
    unfold HoldsK
    rw [flatK_keys hk]
    intro j hj
    have hl := cellsK_length hk
    have hj' : j < ks.length * 16 := by simpa [hl] using hj
    refine ⟨?_, by simp [World.frozen?, hg]⟩
    have e2 : (cur.toList.take (ks.length * 16))[j]? = (cellsK ks)[j]? := by rw [ht]
    rw [List.getElem?_take, if_pos (by omega), Array.getElem?_toList, List.getElem?_eq_getElem (by omega)] at e2
    simp only [World.cell?, hg, Nat.zero_add]
    simp only [Option.isSome_none, Bool.false_eq_true, if_false]
    rw [e2, getElem!_pos _ j (by simpa using hj)]
    simp
theorem OK16.put {B : Nat} {w : World} {g c q : Nat} {ks ys : List (List UInt8)} (h : OK16 B w (some ⟨g, 0, none⟩) c ks) (hk : Keys16 ys) (hl : ys.length = ks.length) : OK16 B (putRowK encK 16 (Sort.ahead w q) g 0 ys.toArray) (some ⟨g, 0, none⟩) c ys := by
  have hcl := cellsK_length hk
  refine ⟨hcl, .inr ?_⟩
  rcases h.2 with ⟨e0, _⟩ | ⟨g', cap', cur, e0, hb, hg, hn, hm, hs, ht⟩
  · cases e0
  · injection e0 with e1 _ e3
    injection e1 with e1
    injection e1 with e1
    subst e1; subst e3
    refine ⟨g, c, putCells id 0 (cellsK ys).toArray cur, rfl, hb, ?_, by omega, hm, by simpa [putCells] using hs, ?_⟩
    · unfold putRowK
      rw [flatK_keys hk]
      simp [putRow, mapBlock, Sort.ahead, Array.getElem?_modify, hg, onCells]
    · apply List.ext_getElem?
      intro j
      rw [List.getElem?_take, Array.getElem?_toList]
      by_cases hj : j < ys.length * 16
      · have hjc : j < cur.size := by omega
        simp only [if_pos hj, putCells, Array.getElem?_mapIdx, Array.getElem?_eq_getElem hjc, Option.map_some]
        rw [if_pos (by simp [hcl]; omega), List.getElem?_eq_getElem (by omega)]
        simp [getElem!_pos, show j < (cellsK ys).length by omega]
      · rw [if_neg hj, List.getElem?_eq_none (by omega)]
theorem below_putK {B : Nat} {w0 w : World} {g q : Nat} {d : Array (List UInt8)} (h : Below B w0 w) (hg : B ≤ g) : Below B w0 (putRowK encK 16 (Sort.ahead w q) g 0 d) := Lib.below_putRow h hg

theorem cells_holdsK {enc : List UInt8 → List Value} {k : Nat} {W : World} {blk off : Nat} {d : Array (List UInt8)} (h : HoldsK enc k W blk off d) (hk : ∀ x, (enc x).length = k) {i : Nat} (hi : i < d.size) :
    ∀ c v, (enc d[i]!)[c]? = some v → W.cell? ((⟨blk, off + i * k, none⟩ : Addr).add c) = some v := fun c v hv => by
  have hc : c < k := by have := (List.getElem?_eq_some_iff.1 hv).1; rwa [hk] at this
  rw [Addr.add_lit, (h.cell hi hc).1, getElem!_pos (enc d[i]!) c (by rw [hk]; exact hc)]
  rw [List.getElem?_eq_getElem (by rw [hk]; exact hc)] at hv
  exact hv
theorem stores_holds (P : Program) {W : World} {blk off : Nat} {F : Array Value} (h : Holds id W blk off F) (s : Nat) (vs : List Value) (hs : s + vs.length ≤ F.size) (h1 : ∀ v ∈ vs, v.oneCell' = true) :
    Sem.run P (storeCells ⟨blk, off + s, none⟩ vs 0) W = .ok () (W.setCells blk (off + s) vs) := by
  have := run_storeCells_cells (P := P) blk (off + s) vs 0 W (fun c hc => by rw [Nat.add_zero, Nat.add_assoc, (h (s + c) (by omega)).1]; rfl) (fun c hc => by rw [Nat.add_zero, Nat.add_assoc]; exact (h (s + c) (by omega)).2) h1
  rwa [Nat.add_zero] at this
theorem run_loadFrom (P : Program) (W : World) (a : Addr) (cs : List Value) (k : Nat) (hk : cs.length = k) (h : ∀ j v, cs[j]? = some v → W.cell? (a.add j) = some v) :
    Sem.run P (loadCellsFrom a 0 k #[]) W = .ok cs.toArray W := by
  have := run_loadCells_list (P := P) (w := W) a cs h
  rw [hk] at this
  simpa [loadCells] using this

section
variable {P : Program} {md : Region.Mode} {ops : Array Oper} {Q : Exit → Act → World → Prop} {S : World → Prop} {fuel : Nat} {listed : Array Bool} {a : Act} {w : World} {K : Act → World → Prop}
/-- A load of a part of a row, at its turn. -/
theorem op_load_mid (i : Nat) {oi : Oper} (g o : Nat) (cs : List Value) (ty : TypeId) (x : Operand) {d : TypeDesc} (hi : ops[i]? = some oi) (ho : oi.op = .load ty x) (hg : oi.guard = none)
    (hx : a.eval x = .pointer (some ⟨g, o, none⟩)) (hc : w.rangeAt g o cs) (hu : P.underlying ty = some d) (hd : d.isRow = true) (hn : (P.info? ty).map (·.size) = some cs.length)
    (h : K (a.put oi.dst (.agg cs.toArray)) w) : wpOp P ops Q i K a w :=
  wpOp_of_wp hi hg (wp_load_mid ty x ho g o hx cs d hc hu hd hn h)
/-- A store into a part of a row, at its turn. -/
theorem op_store_mid (i : Nat) {oi : Oper} (g o : Nat) (cells : Array Value) (ty : TypeId) (x y : Operand) (hi : ops[i]? = some oi) (ho : oi.op = .store ty x y) (hg : oi.guard = none)
    (hx : a.eval x = .pointer (some ⟨g, o, none⟩)) (hy : a.eval y = .agg cells) (ht : w.there g o cells.size) (hn : (P.info? ty).map (·.size) = some cells.size) (h1 : cells.all (·.oneCell') = true)
    (h : K (a.put oi.dst undef) (w.setCells g o cells.toList)) : wpOp P ops Q i K a w :=
  wpOp_of_wp hi hg (wp_store_mid ty x y ho g o cells hx hy ht hn h1 h)
end

theorem info16 {l : List Value} (h : l.length = 16) : (Try.prog.info? 23).map (·.size) = some l.length := by rw [h]; kernel_rfl
set_option maxHeartbeats 4000000 in
set_option maxRecDepth 1000000 in
theorem reverse_row (blk off cap : Nat) (d : Array (List UInt8)) (w : World) (hH : HoldsK encK 16 w blk off d) (hsz : d.size ≤ 140737488351232) :
    Calls Try.prog 73 #[.slice (some ⟨blk, off, none⟩) d.size cap] w fun e w' => e = .returned (.tuple #[]) ∧ ∃ n, w' = putRowK encK 16 (Sort.ahead w n) blk off d.reverse := by
  have h1 : ∀ x, ∀ v ∈ encK x, v.oneCell' = true := fun x => cells_one _
  have hk := encK_length
  have mixed : Try.prog.follows Departure.mixedOrders = true := by kernel_rfl
  go_enter Try.func73, Try.ntmps73
  go_wp2_with fail
  go_loopg [2, 3] d.size (fun kk s2 s3 wr => ∃ (i jn : Nat) (jz : Int) (dk : Array (List UInt8)) (n : Nat), s2 = .int .i64 i ∧ s3 = .int .i64 jz ∧ ((i : Int) < jz → jz = jn ∧ jn < d.size) ∧ (¬ (i : Int) < jz → ¬ i < jn) ∧ jn - i ≤ kk ∧
    dk.size = d.size ∧ wr = putRowK encK 16 (Sort.ahead w n) blk off dk ∧ reverseLoop i jn dk = reverseLoop 0 (d.size - 1) d)
  case atStart => exact ⟨0, d.size - 1, (d.size : Int) - 1, d, 0, rfl, rfl, fun h => ⟨by omega, by omega⟩, fun h => by omega, by omega, rfl, (putRowK_self encK 16 w blk off d hH).symm, rfl⟩
  case round =>
    obtain ⟨i, jn, jz, dk, n, rfl, rfl, h1', h2, hkk, hds, hwr, heq⟩ := hrel
    by_cases hlt : (i : Int) < jz
    · obtain ⟨rfl, hjn⟩ := h1' hlt
      have hij : i < jn := by omega
      have hHd : HoldsK encK 16 wr.drew blk off dk := by rw [hwr]; exact holdsK_putRowK encK 16 _ blk off d dk (holdsK_ahead encK 16 w (n + 1) blk off d hH) hds
      have HLI : Hid (wr.drew.rangeAt blk (off + i * 16) (encK dk[i]!)) := fun j v hv => by have := cells_holdsK hHd hk (i := i) (by omega) j v hv; rwa [Addr.add_mid] at this
      have HLJ : Hid (wr.drew.rangeAt blk (off + jn * 16) (encK dk[jn]!)) := fun j v hv => by have := cells_holdsK hHd hk (i := jn) (by omega) j v hv; rwa [Addr.add_mid] at this
      have HT1 : Hid (wr.drew.there blk (off + i * 16) 16) := fun j hj => by have := hHd.cell (i := i) (c := j) (by omega) hj; exact ⟨by rw [this.1]; rfl, this.2⟩
      have HT2 : Hid (wr.drew.there blk (off + jn * 16) 16) := fun j hj => by have := hHd.cell (i := jn) (c := j) (by omega) hj; exact ⟨by rw [this.1]; rfl, this.2⟩
      have A : Aside (wr = putRowK encK 16 (Sort.ahead w n) blk off dk) := hwr
      have HOI : Hid (∀ v ∈ encK dk[i]!, v.oneCell' = true) := h1 _
      have HOJ : Hid (∀ v ∈ encK dk[jn]!, v.oneCell' = true) := h1 _
      have HSI : Hid ((encK dk[i]!).length = 16) := hk _
      have HSJ : Hid ((encK dk[jn]!).length = 16) := hk _
      have hni : (d.size : Int) ≤ 140737488351232 := by omega
      have hji : (jn : Int) < d.size := by omega
      have hnid : i < d.size := by omega
      have hnii : ¬ d.size ≤ i := by omega
      have hnij : ¬ d.size ≤ jn := by omega
      have hll : (i : Int) < d.size := by omega
      clear hwr hHd hH h1' h2 h1 hk
      obtain ⟨ci, hci⟩ : ∃ c, c = encK dk[i]! := ⟨_, rfl⟩
      obtain ⟨cj, hcj⟩ : ∃ c, c = encK dk[jn]! := ⟨_, rfl⟩
      rw [← hci] at HLI HOI HSI
      rw [← hcj] at HLJ HOJ HSJ
      have CI : Hid (ci = encK dk[i]! ∧ cj = encK dk[jn]!) := ⟨hci, hcj⟩
      clear hci hcj
      go_wp2_with fail
      refine wp_region_noPanic ?_
      refine wp_region_held_drew (S := fun _ => True) (by kernel_rfl) trivial (fun hS => ?_)
      refine hd_take 0 (.slice (some ⟨blk, off, none⟩) d.size cap) rfl rfl (by kernel_rfl) (by kernel_rfl) (by kernel_rfl) (fun _ _ _ h => h) (fun w _ => by go_simp) hS ?_
      refine hd_take 1 (.int .i64 (i : Int)) rfl rfl (by kernel_rfl) (by kernel_rfl) (by kernel_rfl) (fun _ _ _ h => h) (fun w _ => by go_simp) hS ?_
      refine hd_take 2 (.slice (some ⟨blk, off, none⟩) d.size cap) rfl rfl (by kernel_rfl) (by kernel_rfl) (by kernel_rfl) (fun _ _ _ h => h) (fun w _ => by go_simp) hS ?_
      refine hd_take 3 (.int .i64 (jn : Int)) rfl rfl (by kernel_rfl) (by kernel_rfl) (by kernel_rfl) (fun _ _ _ h => h) (fun w _ => by go_simp) hS ?_
      refine hd_take 4 (.slice (some ⟨blk, off, none⟩) d.size cap) rfl rfl (by kernel_rfl) (by kernel_rfl) (by kernel_rfl) (fun _ _ _ h => h) (fun w _ => by go_simp) hS ?_
      refine hd_take 5 (.int .i64 (jn : Int)) rfl rfl (by kernel_rfl) (by kernel_rfl) (by kernel_rfl) (fun _ _ _ h => h) (fun w _ => by go_simp) hS ?_
      refine hd_take 8 (.slice (some ⟨blk, off, none⟩) d.size cap) rfl rfl (by kernel_rfl) (by kernel_rfl) (by kernel_rfl) (fun _ _ _ h => h) (fun w _ => by go_simp) hS ?_
      refine hd_take 9 (.int .i64 (i : Int)) rfl rfl (by kernel_rfl) (by kernel_rfl) (by kernel_rfl) (fun _ _ _ h => h) (fun w _ => by go_simp) hS ?_
      simp only [List.getElem_toArray, List.getElem_cons_succ, List.getElem_cons_zero, Act.put, List.setIfInBounds_toArray, List.set_cons_zero, List.set_cons_succ]
      refine hd_take 6 (.pointer (some ⟨blk, off + jn * 16, none⟩)) rfl rfl (by kernel_rfl) (by kernel_rfl) (by kernel_rfl) (fun _ _ _ h => h) (fun w _ => by go_simp) hS ?_
      refine hd_take 10 (.pointer (some ⟨blk, off + i * 16, none⟩)) rfl rfl (by kernel_rfl) (by kernel_rfl) (by kernel_rfl) (fun _ _ _ h => h) (fun w _ => by go_simp) hS ?_
      simp only [List.getElem_toArray, List.getElem_cons_succ, List.getElem_cons_zero, Act.put, List.setIfInBounds_toArray, List.set_cons_zero, List.set_cons_succ]
      refine hd_two 7 11 (by kernel_rfl) (op_load_mid 7 blk (off + jn * 16) cj 23 (.tmp 20) rfl rfl rfl rfl HLJ.out under_key rfl (info16 HSJ.out) ⟨trivial, ?_⟩) (op_load_mid 11 blk (off + i * 16) ci 23 (.tmp 24) rfl rfl rfl rfl HLI.out under_key rfl (info16 HSI.out) ⟨trivial, ?_⟩)
      · simp only [List.getElem_toArray, List.getElem_cons_succ, List.getElem_cons_zero, Act.put, List.setIfInBounds_toArray, List.set_cons_zero, List.set_cons_succ]
        refine hd_sole 11 (by kernel_rfl) (op_load_mid 11 blk (off + i * 16) ci 23 (.tmp 24) rfl rfl rfl rfl HLI.out under_key rfl (info16 HSI.out) ⟨trivial, ?_⟩)
        simp only [List.getElem_toArray, List.getElem_cons_succ, List.getElem_cons_zero, Act.put, List.setIfInBounds_toArray, List.set_cons_zero, List.set_cons_succ]
        refine hd_take 12 (.pointer (some ⟨blk, off + i * 16, none⟩)) rfl rfl (by kernel_rfl) (by kernel_rfl) (by kernel_rfl) (fun _ _ _ h => h) (fun w _ => by go_simp) trivial ?_
        simp only [List.getElem_toArray, List.getElem_cons_succ, List.getElem_cons_zero, Act.put, List.setIfInBounds_toArray, List.set_cons_zero, List.set_cons_succ]
        refine hd_sole 13 (by kernel_rfl) (op_store_mid 13 blk (off + i * 16) cj.toArray 23 (.tmp 26) (.tmp 21) rfl rfl rfl rfl rfl (by rw [List.size_toArray, HSJ.out]; exact HT1.out) (by rw [List.size_toArray]; exact info16 HSJ.out) (all_oneCell_toArray HOJ.out) ⟨trivial, ?_⟩)
        simp only [List.getElem_toArray, List.getElem_cons_succ, List.getElem_cons_zero, Act.put, List.setIfInBounds_toArray, List.set_cons_zero, List.set_cons_succ]
        refine hd_take 14 (.pointer (some ⟨blk, off + jn * 16, none⟩)) rfl rfl (by kernel_rfl) (by kernel_rfl) (by kernel_rfl) (fun _ _ _ h => h) (fun w _ => by go_simp) trivial ?_
        simp only [List.getElem_toArray, List.getElem_cons_succ, List.getElem_cons_zero, Act.put, List.setIfInBounds_toArray, List.set_cons_zero, List.set_cons_succ]
        refine hd_sole 15 (by kernel_rfl) (op_store_mid 15 blk (off + jn * 16) ci.toArray 23 (.tmp 27) (.tmp 25) rfl rfl rfl rfl rfl (by rw [List.size_toArray, HSI.out]; exact World.there_setCells HT2.out _ _ _) (by rw [List.size_toArray]; exact info16 HSI.out) (all_oneCell_toArray HOI.out) ⟨trivial, ?_⟩)
        refine wpAnyH_done (by kernel_rfl) (NoPanic.normal ?_) _
        simp only [List.getElem_toArray, List.getElem_cons_succ, List.getElem_cons_zero, Act.put, List.setIfInBounds_toArray, List.set_cons_zero, List.set_cons_succ]
        go_wp2_with fail
        go_roundg (jn - 1 - (i + 1))
        case measure => omega
        case rel =>
          rw [reverseLoop, if_pos hij] at heq
          refine ⟨i + 1, jn - 1, (jn : Int) - 1, swp dk i jn, n + 1, by simp, rfl, fun h => ⟨by omega, by omega⟩, fun h => by omega, Nat.le_refl _, by rw [size_swp]; exact hds, ?_, heq⟩
          rw [CI.out.1, CI.out.2, A.out]
          exact swap_worldK encK 16 encK_length w n 1 blk off dk i jn (by omega) (by omega)
      · simp only [List.getElem_toArray, List.getElem_cons_succ, List.getElem_cons_zero, Act.put, List.setIfInBounds_toArray, List.set_cons_zero, List.set_cons_succ]
        refine hd_sole 7 (by kernel_rfl) (op_load_mid 7 blk (off + jn * 16) cj 23 (.tmp 20) rfl rfl rfl rfl HLJ.out under_key rfl (info16 HSJ.out) ⟨trivial, ?_⟩)
        simp only [List.getElem_toArray, List.getElem_cons_succ, List.getElem_cons_zero, Act.put, List.setIfInBounds_toArray, List.set_cons_zero, List.set_cons_succ]
        refine hd_take 12 (.pointer (some ⟨blk, off + i * 16, none⟩)) rfl rfl (by kernel_rfl) (by kernel_rfl) (by kernel_rfl) (fun _ _ _ h => h) (fun w _ => by go_simp) trivial ?_
        simp only [List.getElem_toArray, List.getElem_cons_succ, List.getElem_cons_zero, Act.put, List.setIfInBounds_toArray, List.set_cons_zero, List.set_cons_succ]
        refine hd_sole 13 (by kernel_rfl) (op_store_mid 13 blk (off + i * 16) cj.toArray 23 (.tmp 26) (.tmp 21) rfl rfl rfl rfl rfl (by rw [List.size_toArray, HSJ.out]; exact HT1.out) (by rw [List.size_toArray]; exact info16 HSJ.out) (all_oneCell_toArray HOJ.out) ⟨trivial, ?_⟩)
        simp only [List.getElem_toArray, List.getElem_cons_succ, List.getElem_cons_zero, Act.put, List.setIfInBounds_toArray, List.set_cons_zero, List.set_cons_succ]
        refine hd_take 14 (.pointer (some ⟨blk, off + jn * 16, none⟩)) rfl rfl (by kernel_rfl) (by kernel_rfl) (by kernel_rfl) (fun _ _ _ h => h) (fun w _ => by go_simp) trivial ?_
        simp only [List.getElem_toArray, List.getElem_cons_succ, List.getElem_cons_zero, Act.put, List.setIfInBounds_toArray, List.set_cons_zero, List.set_cons_succ]
        refine hd_sole 15 (by kernel_rfl) (op_store_mid 15 blk (off + jn * 16) ci.toArray 23 (.tmp 27) (.tmp 25) rfl rfl rfl rfl rfl (by rw [List.size_toArray, HSI.out]; exact World.there_setCells HT2.out _ _ _) (by rw [List.size_toArray]; exact info16 HSI.out) (all_oneCell_toArray HOI.out) ⟨trivial, ?_⟩)
        refine wpAnyH_done (by kernel_rfl) (NoPanic.normal ?_) _
        simp only [List.getElem_toArray, List.getElem_cons_succ, List.getElem_cons_zero, Act.put, List.setIfInBounds_toArray, List.set_cons_zero, List.set_cons_succ]
        go_wp2_with fail
        go_roundg (jn - 1 - (i + 1))
        case measure => omega
        case rel =>
          rw [reverseLoop, if_pos hij] at heq
          refine ⟨i + 1, jn - 1, (jn : Int) - 1, swp dk i jn, n + 1, by simp, rfl, fun h => ⟨by omega, by omega⟩, fun h => by omega, Nat.le_refl _, by rw [size_swp]; exact hds, ?_, heq⟩
          rw [CI.out.1, CI.out.2, A.out]
          exact swap_worldK encK 16 encK_length w n 1 blk off dk i jn (by omega) (by omega)
    · have hnot := h2 hlt
      go_wp2
      go_end0
      refine ⟨rfl, n, ?_⟩
      rw [reverseLoop, if_neg hnot] at heq
      rw [← Lib.reverseLoop_reverse, ← heq]
theorem reverse_none (w : World) : Calls Try.prog 73 #[.slice none 0 0] w fun e w' => e = .returned (.tuple #[]) ∧ w' = w := by
  go_enter Try.func73, Try.ntmps73
  go_wp2
  go_loopg [2, 3] 0 (fun _ s2 s3 wr => s2 = .int .i64 0 ∧ s3 = .int .i64 (-1) ∧ wr = w)
  case atStart => exact ⟨rfl, rfl, rfl⟩
  case round =>
    obtain ⟨rfl, rfl, rfl⟩ := hrel
    go_wp2
    go_end0
    exact ⟨rfl, rfl⟩
theorem putRowK_nil (w : World) (g : Nat) : putRowK encK 16 w g 0 #[] = w := by
  refine putRowK_self encK 16 w g 0 #[] (fun j hj => ?_)
  simp [flatK] at hj
theorem reverse_any {B : Nat} (ks : List (List UInt8)) (A : Option Addr) (c : Nat) (w : World) {n : Nat} (hn : ks.length = n) (h : OK16 B w A c ks) (hk : Keys16 ks) (hl : n ≤ 140737488351232) :
    Calls Try.prog 73 #[.slice A n c] w fun e w' => e = .returned (.tuple #[]) ∧ OK16 B w' A c ks.reverse ∧ Below B w w' := by
  subst hn
  by_cases h0 : ks = []
  · subst h0
    rcases h.2 with ⟨e, _⟩ | ⟨g, cap, cur, e, hb, hg, hn, hm, hs, ht⟩
    · injection e with e1 e2 e3
      subst e1; subst e3
      refine (reverse_none w).mono ?_
      rintro e w' ⟨rfl, rfl⟩
      exact ⟨rfl, h, Below.refl _ _⟩
    · injection e with e1 e2 e3
      subst e1; subst e3
      refine (reverse_row g 0 c #[] w (fun j hj => by simp [flatK] at hj) (by simp)).mono ?_
      rintro e w' ⟨rfl, q, rfl⟩
      rw [show (#[] : Array (List UInt8)).reverse = #[] from rfl, putRowK_nil]
      exact ⟨rfl, h, ⟨rfl, rfl, rfl, Nat.le_refl _, fun _ _ => rfl⟩⟩
  · obtain ⟨g, rfl, hb, hg, hh⟩ := holds_of_OK16 h hk h0
    refine (reverse_row g 0 c ks.toArray w hh (by simpa using hl)).mono ?_
    rintro e w' ⟨rfl, q, rfl⟩
    rw [show ks.toArray.reverse = ks.reverse.toArray by simp]
    exact ⟨rfl, h.put hk.reverse (by simp), below_putK (Below.refl _ _) hb⟩
end Go.Proofs.Ytinpiodfpnbllaa

/- slices.Concat at bytes. -/
namespace Go.Proofs.Ytinpiodfpnbllaa
open Go.RowKit
set_option linter.unusedVariables false

theorem wpList_grow (w : World) {ops : Array Oper} {rest : List Oper} {o : Oper} {a : Act} {Q : Exit → Act → World → Prop} (hgd : o.guard = none) (s x : Operand)
    (ho : o.op = .call { callee := .builtin .append, args := #[s, x], argTypes := #[24, 3] }) (k : Nat) (hs : a.eval s = .slice none 0 0) (hx : a.eval x = .int .i64 (k : Int)) (h0 : 0 < k) (hk : k ≤ 1000000)
    (h : ∀ c w', OB w.heap.size w' (some ⟨w.heap.size, 0, none⟩) c [] → k ≤ c → c ≤ 9223372036854775807 → Below w.heap.size w w' → wpList Try.prog ops Q rest (a.put o.dst (.slice (some ⟨w.heap.size, 0, none⟩) k c)) w') : wpList Try.prog ops Q (o :: rest) a w := by
  obtain ⟨i0, hi, hz0, hz1, hz2⟩ := info_parts u8_info'
  have hfit : Builtin.nextslicecap (0 + k) 0 * i0.bytes ≤ 281474976710656 := by
    rw [hz2]
    unfold Builtin.nextslicecap
    simp only [Nat.zero_add]
    split <;> simp <;> omega
  have hrun := Lib.run_append_grow_zeros (P := Try.prog) w 24 3 o.type 5 i0 (.int .u8 0) .i64 .i64 Try.underlying24 Try.underlying3 hi hz0 none 0 0 [] (by simp [Builtin.firstCells]) k h0 (by rw [hz1]; omega) (by omega) (by omega) (by rw [hz2]; omega) hfit
  refine wpList_plain hgd fun K hK => ?_
  rw [Nat.zero_add] at hrun
  have hge := grownCap_ge w k 0 5
  have hle := grownCap_le_maxLen w k 0 5 (by simp only [maxLen]; omega)
  have ho1 : OB w.heap.size (w.drew.alloc (.cells (([] : List Value).toArray ++ Builtin.zeroCells (Value.int .u8 0).cells k ++ Builtin.zeroCells (Value.int .u8 0).cells (grownCap w k 0 5 - k)) 5)) (some ⟨w.heap.size, 0, none⟩) (grownCap w k 0 5) [] :=
    ⟨rfl, .inr ⟨w.heap.size, _, _, rfl, Nat.le_refl _, heap_alloc_new w.drew _, Nat.zero_le _, hle, by simp [size_zeroCells, Value.cells]; omega, by simp [cellsB]⟩⟩
  have hb1 : Below w.heap.size w (w.drew.alloc (.cells (([] : List Value).toArray ++ Builtin.zeroCells (Value.int .u8 0).cells k ++ Builtin.zeroCells (Value.int .u8 0).cells (grownCap w k 0 5 - k)) 5)) := (Below.refl _ w).drew.alloc (Nat.le_refl _) _
  unfold Oper.wp
  simp only [execOp, ho, resolve, invoke, builtin, Sem.run_bind, Sem.run_pure, Result.andThen_ok, List.map_toArray, List.map_cons, List.map_nil, hs, hx, hrun]
  exact hK _ _ (h _ _ ho1 hge (by simpa [maxLen] using hle) hb1)

set_option maxHeartbeats 1000000 in
theorem Grow_any (n : Nat) (w : World) (h0 : 0 < n) (hn : n ≤ 1000000) : Calls Try.prog 150 #[.slice none 0 0, .int .i64 (n : Int)] w fun e w' => (∃ A c, e = .returned (.slice A 0 c) ∧ OB w.heap.size w' A c []) ∧ Below w.heap.size w w' := by
  have hni : (n : Int) ≤ 1000000 := by omega
  have h0i : (0 : Int) < (n : Int) := by omega
  go_enter Try.func150, Try.ntmps150
  go_wp2_with (at_builtin; refine wpList_grow _ rfl (.tmp 20) (.tmp 21) rfl n rfl rfl h0 hn ?_; intro c1 w1 ho1 hc1 hc2 hb1; have HO1 := Lib.hid ho1; clear ho1)
  go_ret
  exact ⟨⟨_, c1, rfl, HO1.out⟩, hb1⟩

/-- The first i rows, one behind the other. -/
def catL (rs : List BRow) (i : Nat) : List UInt8 := (rs.take i).flatMap BRow.l
theorem catL_succ {rs : List BRow} {i : Nat} {r : BRow} (h : rs[i]? = some r) : catL rs (i + 1) = catL rs i ++ r.l := by
  obtain ⟨hi, he⟩ := List.getElem?_eq_some_iff.1 h
  rw [catL, List.take_succ_eq_append_getElem hi, List.flatMap_append, he]
  simp [catL]
theorem catL_le (rs : List BRow) {i n : Nat} (h : i ≤ n) : (catL rs i).length ≤ (catL rs n).length := by
  have e : (rs.take n).take i = rs.take i := by rw [List.take_take, Nat.min_eq_left h]
  have this := (List.take_append_drop i (rs.take n)).symm
  rw [e] at this
  rw [catL, catL, this, List.flatMap_append, List.length_append]
  omega
theorem RR.cellAt {w : World} {A : Option Addr} {c : Nat} {rs : List BRow} (h : RR w A c rs) {i : Nat} (hi : i < rs.length) :
    ∃ b off r, A = some ⟨b, off, none⟩ ∧ b < w.heap.size ∧ rs[i]? = some r ∧ w.cell? ⟨b, off + i, none⟩ = some (.slice r.A r.l.length r.c) ∧ BR w r.A r.c r.l := by
  obtain ⟨b, off, e, hb, v, hv, hc⟩ := Rd.at1 h.1 hi
  have hr : rs[i]? = some rs[i] := List.getElem?_eq_getElem hi
  rw [List.getElem?_map, hr] at hv
  injection hv with hv
  subst hv
  exact ⟨b, off, rs[i], e, hb, hr, hc, h.2 _ (List.getElem_mem hi)⟩
theorem RR.on {w w' : World} {A : Option Addr} {c : Nat} {rs : List BRow} (h : RR w A c rs) (hb : Below w.heap.size w w') : RR w' A c rs := ⟨h.1.below hb, fun r hr => (h.2 r hr).below hb⟩

set_option maxHeartbeats 1000000 in
set_option maxRecDepth 100000 in
theorem Concat_any (A : Option Addr) (c : Nat) (rs : List BRow) (w : World) {n N : Nat} (hn : rs.length = n) (h : RR w A c rs) (hN : (catL rs n).length = N) (h0 : 0 < N) (hb : N ≤ 1000000) :
    Calls Try.prog 129 #[.slice A n c] w fun e w' => (∃ A' c', e = .returned (.slice A' N c') ∧ OB w.heap.size w' A' c' (catL rs n)) ∧ Below w.heap.size w w' := by
  have HN := Lib.hid hn
  have HNN := Lib.hid hN
  have H := Lib.hid h
  have hni : (N : Int) ≤ 1000000 := by omega
  have hnl : (n : Int) ≤ 140737488351232 := by have := h.1.len; omega
  have HGR : Hid (∀ W, Calls Try.prog 150 #[.slice none 0 0, .int .i64 (N : Int)] W fun e w' => (∃ A c, e = .returned (.slice A 0 c) ∧ OB W.heap.size w' A c []) ∧ Below W.heap.size W w') := fun W => Grow_any N W h0 hb
  clear hn hN h
  go_enter Try.func129, Try.ntmps129
  go_wp2_with fail
  go_loop [3, 11] (fun vs vi => ∃ (i m : Nat), i ≤ n ∧ vi = .int .i64 (i : Int) ∧ vs = .int .i64 (m : Int) ∧ Hid ((catL rs i).length = m)) (fun _ vi => n - (intOf vi).toNat)
  case atStart => exact ⟨0, 0, by omega, rfl, rfl, rfl⟩
  case round =>
    obtain ⟨i, m, hi, rfl, rfl, HM⟩ := hrel
    have hmN : m ≤ N := by have h1 := catL_le rs hi; rw [HM.out, HNN.out] at h1; exact h1
    have hmi : (m : Int) ≤ 1000000 := by omega
    by_cases hlt : i < n
    · have hii : (i : Int) < n := by omega
      obtain ⟨b, off, r, rfl, hbb, hr, hc, hR⟩ := H.out.cellAt (i := i) (by have := HN.out; omega)
      have HCS := Lib.hid (catL_succ hr)
      have hm2 : m + r.l.length ≤ N := by have h1 := catL_le rs (show i + 1 ≤ n from hlt); rw [HCS.out, List.length_append, HM.out, HNN.out] at h1; exact h1
      obtain ⟨RA, rc, rl⟩ := r
      dsimp only at hc hm2 HCS
      obtain ⟨rn, hrn⟩ : ∃ rn, rl.length = rn := ⟨_, rfl⟩
      rw [hrn] at hc hm2
      have HRN := Lib.hid hrn
      have hm2i : (m : Int) + (rn : Int) ≤ 1000000 := by omega
      clear hr hR hrn
      go_wp2_with fail
      go_round
      case rel => exact ⟨i + 1, m + rn, by omega, by go_num, by go_num, by unfold Hid; rw [HCS.out, List.length_append, HM.out, HRN.out]⟩
      case measure => simp [intOf]; omega
    · obtain rfl : i = n := by omega
      obtain rfl : m = N := by rw [← HM.out, HNN.out]
      have hii : (i : Int) ≤ i := Int.le_refl _
      go_wp2_with (go_at_call 150; refine (HGR.out _).mono ?_; rintro e w1 ⟨⟨A1, c1, rfl, ho1⟩, hb1⟩; have HO1 := Lib.hid ho1; clear ho1)
      go_loopw [6, 27] (fun vo vi wr => ∃ (j q : Nat) (A' : Option Addr) (c' : Nat), j ≤ i ∧ vi = .int .i64 (j : Int) ∧ vo = .slice A' q c' ∧ Hid ((catL rs j).length = q) ∧ Hid (OB w.heap.size wr A' c' (catL rs j)) ∧ Below w.heap.size w wr) (fun _ vi _ => i - (intOf vi).toNat)
      case atStart => exact ⟨0, 0, A1, c1, by omega, rfl, rfl, rfl, HO1.out, hb1⟩
      case round =>
        obtain ⟨j, q, A', c', hj, rfl, rfl, HQ, HO, hbel⟩ := hrel
        by_cases hlt2 : j < i
        · have hji : (j : Int) < i := by omega
          obtain ⟨b, off, r, rfl, hbb, hr, hc, hR⟩ := (H.out.on hbel).cellAt (i := j) (by have := HN.out; omega)
          have HCS := Lib.hid (catL_succ hr)
          have hm2 : q + r.l.length ≤ m := by have h1 := catL_le rs (show j + 1 ≤ i from hlt2); rw [HCS.out, List.length_append, HQ.out, HNN.out] at h1; exact h1
          obtain ⟨RA, rc, rl⟩ := r
          dsimp only at hc hm2 HCS hR
          obtain ⟨rn, hrn⟩ : ∃ rn, rl.length = rn := ⟨_, rfl⟩
          rw [hrn] at hc hm2
          have HRN := Lib.hid hrn
          have HR := Lib.hid hR
          clear hr hR hrn
          go_wp2_with (at_builtin; refine wpList_append_bytes _ rfl (.tmp 31) (.tmp 32) rfl w.heap.size A' q c' (catL rs j) HQ.out rfl HO.out RA rn rc rl HRN.out rfl (HR.out.src HRN.out) (by omega) hbel.size ?_; intro A5 c5 w5 hon5 hbl5 hg5; have HON5 := Lib.hid hon5; have b5 := hbel.trans hbl5; clear hon5 hg5 hbl5)
          go_roundw
          case rel => exact ⟨j + 1, q + rn, A5, c5, by omega, by go_num, rfl, by unfold Hid; rw [HCS.out, List.length_append, HQ.out, HRN.out], by rw [HCS.out]; exact HON5.out, b5⟩
          case measure => simp [intOf]; omega
        · obtain rfl : j = i := by omega
          obtain rfl : q = m := by rw [← HQ.out, HNN.out]
          go_wp2_with fail
          go_ret
          exact ⟨⟨A', c', rfl, HO.out⟩, hbel⟩
end Go.Proofs.Ytinpiodfpnbllaa

/- Undoing a round. -/
namespace Go.Proofs.Ytinpiodfpnbllaa
open Go.RowKit
set_option linter.unusedVariables false

theorem deW_step (k p : W2) (j : Nat) (h : j < 32) : deW k p (32 - j) = bck (ksS k j).2 (deW k p (32 - (j + 1))) := by
  obtain ⟨m, hm⟩ : ∃ m, m = 32 - (j + 1) := ⟨_, rfl⟩
  rw [← hm, show 32 - j = m + 1 from by omega, deW, show 31 - m = j from by omega]
set_option maxHeartbeats 1000000 in
set_option maxRecDepth 100000 in
theorem back_any (p : W2) (k : UInt64) (w : World) : Calls Try.prog 147 #[.agg #[.int .u64 (p.1.toNat : Int), .int .u64 (p.2.toNat : Int)], .int .u64 (k.toNat : Int)] w fun e w' => e = .returned (.agg #[.int .u64 ((bck k p).1.toNat : Int), .int .u64 ((bck k p).2.toNat : Int)]) ∧ Below w.heap.size w w' := by
  obtain ⟨x, y⟩ := p
  dsimp only
  have hx := u64_bd x
  have hy := u64_bd y
  have hk := u64_bd k
  have HE : Hid (rotl8 ((x ^^^ k) - rotr3 (x ^^^ y)) = (bck k (x, y)).1 ∧ rotr3 (x ^^^ y) = (bck k (x, y)).2) := ⟨rfl, rfl⟩
  have hy3 := u64_bd (rotr3 (x ^^^ y))
  go_enter Try.func147, Try.ntmps147
  go_wp2_with fail
  simp only [u64_xor]
  go_at_call 144
  refine (RotateLeft64_r3 (x ^^^ y) _).mono ?_
  rintro e w1 ⟨rfl, rfl⟩
  go_wp2_with fail
  simp only [u64_xor, u64_sub]
  go_at_call 144
  refine (RotateLeft64_l8 _ _).mono ?_
  rintro e w1 ⟨rfl, rfl⟩
  rw [HE.out.1, HE.out.2]
  go_wp2_with fail
  exact bodyPost_ret (v := .agg #[.int .u64 ((bck k (x, y)).1.toNat : Int), .int .u64 ((bck k (x, y)).2.toNat : Int)]) (by simp [results, Try.results147, go_sem]) rfl
    ⟨rfl, alloc2_bel w _ _⟩
end Go.Proofs.Ytinpiodfpnbllaa

/- The reference's Decrypt. -/
namespace Go.Proofs.Ytinpiodfpnbllaa
open Go.RowKit
set_option linter.unusedVariables false
attribute [local go_sem] run_storeCells_key

theorem bck_snd (u x y : UInt64) : rotr3 (y ^^^ x) = (bck u (x, y)).2 := by rw [UInt64.xor_comm]; rfl
theorem bck_fst (u x y : UInt64) : rotl8 ((x ^^^ u) - (bck u (x, y)).2) = (bck u (x, y)).1 := rfl
set_option maxHeartbeats 1000000 in
set_option maxRecDepth 100000 in
theorem refDecrypt_any (k b : List UInt8) (w : World) (hk : k.length = 16) (hb : b.length = 16) : Calls Try.prog 121 #[.agg (cellsB k).toArray, .agg (cellsB b).toArray] w fun e w' => e = .returned (.agg (cellsB (decS k b)).toArray) ∧ Below w.heap.size w w' := by
  have HK := Lib.hid hk
  have HB := Lib.hid hb
  have hkl : (cellsB k).length = 16 := by rw [cellsB_length, hk]
  have hbl : (cellsB b).length = 16 := by rw [cellsB_length, hb]
  have HZ := Lib.hid zero16
  clear hk hb
  go_enter Try.func121, Try.ntmps121
  go_wp2_with (first
    | (go_at_call 115; rw [fold16B b HB.out, HZ.out]; refine (refWords_key b _ HB.out).mono ?_; rintro e w1 ⟨rfl, hb1⟩; have hck : ∀ j, w1.cell? ⟨w.heap.size, j, none⟩ = (cellsB k).toArray[j]? := fun j => ((blk_a0 w (cellsB k).toArray 23 _ _).below' hb1).cell j)
    | (go_at_call 116; rw [fold16B k HK.out]; refine (refRoundKeys_any k _ HK.out).mono ?_; rintro e w2 ⟨A, c, rfl, hR, hb2⟩; have HR := Lib.hid hR; clear hR))
  have HB0 : Hid (Blk w2 (w.heap.size + 1 + 1) 23 (cellsB zeroK).toArray) := (((blk_a2 w _ _ (cellsB zeroK).toArray 23).below' hb1)).below' hb2
  have hb02 : Below w.heap.size w w2 := (alloc3_bel w _ _ _).trans ((hb1.trans (hb2.mono hb1.size)).mono (alloc3_bel w _ _ _).size)
  have hs2 : w.heap.size + 1 + 1 < w2.heap.size := HB0.out.lt
  clear hck
  go_loopw [5, 6, 8] (fun vx vy vi wr => ∃ j : Nat, j ≤ 32 ∧ vi = .int .i64 ((j : Int) - 1) ∧ vx = .int .u64 ((deW (wds k) (wds b) (32 - j)).1.toNat : Int) ∧ vy = .int .u64 ((deW (wds k) (wds b) (32 - j)).2.toNat : Int) ∧ Below w2.heap.size w2 wr) (fun _ _ vi _ => (intOf vi + 1).toNat)
  case atStart => exact ⟨32, by omega, rfl, rfl, rfl, Below.refl _ _⟩
  case round =>
    obtain ⟨j', hi, rfl, rfl, rfl, hbel⟩ := hrel
    by_cases hlt : 0 < j'
    · obtain ⟨j, rfl⟩ : ∃ j, j' = j + 1 := ⟨j' - 1, by omega⟩
      rw [show ((j + 1 : Nat) : Int) - 1 = (j : Int) from by omega]
      have hii : (j : Int) < 32 := by omega
      have hjlt : j < 32 := by omega
      have HES : Hid (deW (wds k) (wds b) (32 - j) = bck (ksS (wds k) j).2 (deW (wds k) (wds b) (32 - (j + 1)))) := deW_step _ _ _ hjlt
      obtain ⟨g, off, rfl, hg, v, hv, hc⟩ := Rd.at1 (HR.out.below hbel) hjlt
      rw [ksL_at _ _ hjlt] at hv
      injection hv with hv
      subst hv
      obtain ⟨⟨x, y⟩, hp⟩ : ∃ p, deW (wds k) (wds b) (32 - (j + 1)) = p := ⟨_, rfl⟩
      obtain ⟨u, hu⟩ : ∃ u, (ksS (wds k) j).2 = u := ⟨_, rfl⟩
      rw [hp, hu] at HES
      rw [hp]
      rw [hu] at hc
      have hx := u64_bd x
      have hy := u64_bd y
      have hu3 := u64_bd u
      have E1 := Lib.hid (bck_fst u x y)
      have E2 := Lib.hid (bck_snd u x y)
      clear hp hu hjlt
      go_wp2_with fail
      simp only [u64_xor]
      go_at_call 117
      refine (refRotr_3 (y ^^^ x) _).mono ?_
      rintro e w3 ⟨rfl, n3, rfl⟩
      rw [E2.out]
      have hc3 := hc
      have hy2 := u64_bd (bck u (x, y)).2
      go_wp2_with fail
      simp only [u64_xor, u64_sub]
      go_at_call 118
      refine (refRotl_8 _ _).mono ?_
      rintro e w4 ⟨rfl, n4, rfl⟩
      rw [E1.out]
      go_wp2_with fail
      go_roundw
      case rel => exact ⟨j, by omega, by go_num, by rw [HES.out], by rw [HES.out], by first | exact below_drewN hbel _ | exact below_drewN (below_drewN hbel _) _⟩
      case measure => simp [intOf]
    · obtain rfl : j' = 0 := by omega
      have HE : Hid (decS k b = blk (deW (wds k) (wds b) 32)) := rfl
      rw [show 32 - 0 = 32 from rfl]
      obtain ⟨⟨x, y⟩, hp⟩ : ∃ p, deW (wds k) (wds b) 32 = p := ⟨_, rfl⟩
      rw [hp] at HE ⊢
      have hall := all16 (blk (x, y))
      have hl : (cellsB (blk (x, y))).length = 16 := rfl
      clear hp
      go_wp2_with (go_at_call 119; refine (refBlock2_any x y _).mono ?_; rintro e w5 ⟨rfl, hb5⟩; have hB := ((HB0.out.below' hbel).below' hb5); have hr5 : (rowAt w5 (w.heap.size + 1 + 1)).size = 16 := by { rw [hB.row]; rfl }; have hf5 := hB.free; have HB5 := Lib.hid hB; clear hB)
      have hbF : Below w.heap.size w w5 := hb02.trans ((hbel.trans (hb5.mono hbel.size)).mono hb02.size)
      exact bodyPost_ret (results_cell_row rfl _ _ (w.heap.size + 1 + 1) _ _ (0, 0) _ rfl (HB5.out.setRow (cellsB (blk (x, y))).toArray) under_key rfl (cellsB_size _ rfl)) rfl ⟨by rw [HE.out], below_setRow hbF (by omega) _⟩
end Go.Proofs.Ytinpiodfpnbllaa

/- The content key of a recording: the reference's. -/
namespace Go.Proofs.Ytinpiodfpnbllaa
open Go.RowKit
set_option linter.unusedVariables false
attribute [local go_sem] run_storeCells_key run_storeCells_new

theorem equalIn_keys (w : World) (a b : List UInt8) (ha : Hid (a.length = 16)) (hb : Hid (b.length = 16)) : (Op.equalIn 10000 23 (.agg (cellsB a).toArray) (.agg (cellsB b).toArray)).run Try.prog w = .ok (a == b) w := by
  have := run_equalIn_bytes (P := Try.prog) w 9998 23 5 16 Try.underlying23 Try.underlying5 (size_one (by kernel_rfl)) a b ha.out hb.out
  unfold cellsB
  have e : (fun x : UInt8 => Value.int .u8 (x.toNat : Int)) = Extern.Stop.cell := rfl
  rw [e, this]
attribute [local go_sem] equalIn_keys

set_option maxHeartbeats 1000000 in
set_option maxRecDepth 100000 in
theorem refContent_any (k x c : List UInt8) (A : Option Addr) (n cap : Nat) (w : World) (hk : k.length = 16) (hx : x.length = 16) (hc : c.length = 16) :
    Calls Try.prog 60 #[.agg (cellsB k).toArray, .agg (recC x c A n cap).toArray] w fun e w' => e = .returned (.tuple #[.agg (cellsB (decS k x)).toArray, .bool (chkS (decS k x) == c)]) ∧ Below w.heap.size w w' := by
  have HK := Lib.hid hk
  have HX := Lib.hid hx
  have HC := Lib.hid hc
  have HZ := Lib.hid zero16
  have b0 := alloc3_bel w (.cells (cellsB k).toArray 23) (.cells (recC x c A n cap).toArray 26) (.cells (cellsB zeroK).toArray 23)
  obtain ⟨d, hd⟩ : ∃ d, decS k x = d := ⟨_, rfl⟩
  have hdl : d.length = 16 := by rw [← hd]; rfl
  have HDD := Lib.hid hd
  have HDL := Lib.hid hdl
  have hdc : (cellsB d).length = 16 := by rw [cellsB_length, hdl]
  have hall := all16 d
  rw [hd]
  obtain ⟨q, hq⟩ : ∃ q, chkS d = q := ⟨_, rfl⟩
  have hql : q.length = 16 := by rw [← hq]; rfl
  have HCK : Hid (∀ W, Calls Try.prog 57 #[.agg (cellsB d).toArray, .int .u8 53, .int .u64 0] W fun e w' => e = .returned (.agg (cellsB q).toArray) ∧ Below W.heap.size W w') := fun W => by rw [← hq]; exact refDerive_any d 53 0 W hdl
  rw [hq]
  have HQL := Lib.hid hql
  clear hq hql
  clear hk hx hc hd hdl
  go_enter Try.func60, Try.ntmps60
  go_wp2_with (first
    | (refine wpList_load_row rfl 23 (.tmp 2) rfl w.heap.size rfl 23 (cellsB k).toArray (0, 0) _ (blk_a0 w _ _ _ _) under_key rfl (cellsB_size _ HK.out) ?_)
    | (refine wpList_load_mid rfl 23 (.tmp 8) rfl (w.heap.size + 1) 0 rfl (cellsB x) _ (rec_box (blk_a1 w _ (recC x c A n cap).toArray 26 _)) under_key rfl (key_info HX.out) ?_)
    | (go_at_call 121; refine (refDecrypt_any k x _ HK.out HX.out).mono ?_; rintro e w1 ⟨rfl, hb1⟩; rw [HDD.out]))
  have b1 : Below w.heap.size w w1 := b0.trans (hb1.mono b0.size)
  obtain ⟨W4, hW4⟩ : ∃ W : World, W = w1.alloc (.cells (cellsB d).toArray 23) := ⟨_, rfl⟩
  have BD : Hid (Blk W4 w1.heap.size 23 (cellsB d).toArray) := by rw [hW4]; exact Blk.new _ _ _
  have BC : Hid (Blk W4 (w.heap.size + 1) 26 (recC x c A n cap).toArray) := by rw [hW4]; exact ((blk_a1 w _ (recC x c A n cap).toArray 26 _).below' hb1).alloc _
  have BR0 : Hid (Blk W4 (w.heap.size + 1 + 1) 23 (cellsB zeroK).toArray) := by rw [hW4]; rw [← HZ.out]; exact ((blk_a2 w _ _ _ _).below' hb1).alloc _
  have b4 : Below w.heap.size w W4 := by rw [hW4]; exact b1.alloc b1.size _
  rw [← hW4]
  clear hW4
  have hu := under_key
  have hi1 : (Try.prog.info? 23).map (·.size) = some 16 := by kernel_rfl
  have hql : (cellsB q).length = 16 := by rw [cellsB_length, HQL.out]
  have hcl : (cellsB c).length = 16 := by rw [cellsB_length, HC.out]
  have c0 := (rec_check BC.out HX.out)
  have r0 := BR0.out
  refine wp_region_noPanic ?_
  refine wp_region_held_drew (S := fun w' => w'.rangeAt w1.heap.size 0 (cellsB d) ∧ w'.rangeAt (w.heap.size + 1) 16 (cellsB c)) (by kernel_rfl) ⟨BD.out.drew.range, (rec_check BC.out.drew HX.out)⟩ (fun hS => ?_)
  refine hd_load 0 w1.heap.size 0 (cellsB d) _ _ rfl rfl rfl (by kernel_rfl) (by kernel_rfl) (by kernel_rfl) (fun _ _ _ h => h) rfl (fun w hw => hw.1) under_key rfl (key_info HDL.out) hS ?_
  refine hd_load 1 w1.heap.size 0 (cellsB d) _ _ rfl rfl rfl (by kernel_rfl) (by kernel_rfl) (by kernel_rfl) (fun _ _ _ h => h) rfl (fun w hw => hw.1) under_key rfl (key_info HDL.out) hS ?_
  refine hd_take 3 (.pointer (some ⟨w.heap.size + 1, 16, none⟩)) rfl rfl (by kernel_rfl) (by kernel_rfl) (by kernel_rfl) (fun _ _ _ h => h) (fun w _ => by go_simp) hS ?_
  refine hd_load 4 (w.heap.size + 1) 16 (cellsB c) _ _ rfl rfl rfl (by kernel_rfl) (by kernel_rfl) (by kernel_rfl) (fun _ _ _ h => h) rfl (fun w hw => hw.2) under_key rfl (key_info HC.out) hS ?_
  refine hd_calls 2 57 #[.agg (cellsB d).toArray, .int .u8 53, .int .u64 0] rfl rfl (by kernel_rfl) (by go_simp) ((HCK.out _).mono ?_)
  rintro e w5 ⟨rfl, hb5⟩
  have hS5 := And.intro (range_below hS.1 hb5) (range_below hS.2 hb5)
  refine ⟨_, rfl, hS5, ?_⟩
  refine hd_take 5 (.bool (q == c)) rfl rfl (by kernel_rfl) (by kernel_rfl) (by kernel_rfl) (fun _ _ _ h => h) (fun w _ => by go_simp) hS5 ?_
  have r5 := BR0.out.drew.below' hb5
  have hS6 := And.intro (range_setRow hS5.1 (g' := w.heap.size + 1 + 1) (by have := b1.size; have := (blk_a2 w (.cells (cellsB k).toArray 23) (.cells (recC x c A n cap).toArray 26) (cellsB zeroK).toArray 23).lt; have := hb1.size; simp only [World.size_alloc] at *; omega) (cellsB d).toArray) (range_setRow hS5.2 (g' := w.heap.size + 1 + 1) (by omega) (cellsB d).toArray)
  refine hd_store 6 (w.heap.size + 1 + 1) (cellsB d).toArray _ _ _ rfl rfl rfl (by kernel_rfl) rfl rfl r5 (cellsB_size _ HDL.out) (by rw [List.size_toArray, List.size_toArray, hdc]; rfl) (all_oneCell_toArray (cells_one d)) hS6 ?_
  refine hd_take 7 (.bool (q == c)) rfl rfl (by kernel_rfl) (by kernel_rfl) (by kernel_rfl) (fun _ _ _ h => h) (fun w _ => by go_simp) hS6 ?_
  refine wpAnyH_done (by kernel_rfl) (NoPanic.normal ?_) _
  simp only [List.getElem_toArray, List.getElem_cons_succ, List.getElem_cons_zero, Act.put, List.setIfInBounds_toArray, List.set_cons_zero, List.set_cons_succ]
  go_wp2_with fail
  refine bodyPost_ret (v := .tuple #[.agg (cellsB d).toArray, .bool (q == c)]) ?_ rfl ⟨rfl, below_setRow (b4.drew.trans (hb5.mono b4.size)) (by omega) _⟩
  rw [results_cell_tmp Try.results60]
  simp [asAddr, Result.andThen, run_loadVar_row _ (w.heap.size + 1 + 1) _ _ _ (0, 0) _ (r5.setRow (cellsB d).toArray) under_key rfl (cellsB_size _ HDL.out)]
end Go.Proofs.Ytinpiodfpnbllaa

/- The program's xor of blocks, and the step of its digest. -/
namespace Go.Proofs.Ytinpiodfpnbllaa
open Go.RowKit
set_option linter.unusedVariables false
attribute [local go_sem] run_storeCells_key equalIn_keys

theorem xorS_self {a : List UInt8} (h : a.length = 16) : xorS a a = zeroK := by
  refine List.ext_getElem (by simp [xorS]; rfl) fun i h1 h2 => ?_
  rw [show zeroK[i] = 0 from List.getElem_replicate _]
  simp [xorS]

set_option maxHeartbeats 1000000 in
set_option maxRecDepth 100000 in
theorem xor_same (a : List UInt8) (w : World) (ha : a.length = 16) : Calls Try.prog 163 #[.agg (cellsB a).toArray, .agg (cellsB a).toArray] w fun e w' => e = .returned (.agg (cellsB (xorS a a)).toArray) ∧ Below w.heap.size w w' := by
  have HA := Lib.hid ha
  have HZ := Lib.hid zero16
  have HXS := Lib.hid (xorS_self ha)
  have B2 := blk_a2 w (.cells (cellsB a).toArray 23) (.cells (cellsB a).toArray 23) (cellsB zeroK).toArray 23
  have hr3 : (rowAt (((w.alloc (.cells (cellsB a).toArray 23)).alloc (.cells (cellsB a).toArray 23)).alloc (.cells (cellsB zeroK).toArray 23)) (w.heap.size + 1 + 1)).size = 16 := by rw [B2.row]; rfl
  have hf3 := B2.free
  have HB2 := Lib.hid B2
  have hlz : (cellsB zeroK).length = 16 := rfl
  have haz := all16 zeroK
  have b0 := alloc3_bel w (.cells (cellsB a).toArray 23) (.cells (cellsB a).toArray 23) (.cells (cellsB zeroK).toArray 23)
  have hz : ∀ W, (Op.equalIn 10000 23 (.agg (cellsB a).toArray) (.agg (cellsB a).toArray)).run Try.prog W = .ok true W := fun W => by rw [equalIn_keys W a a HA.out HA.out]; simp
  clear ha B2
  go_enter Try.func163, Try.ntmps163
  go_wp2_with (first
    | (rw [HZ.out]; refine wpList_load_row rfl 23 (.tmp 2) rfl w.heap.size rfl 23 (cellsB a).toArray (0, 0) _ (blk_a0 w _ _ _ _) under_key rfl (cellsB_size _ HA.out) ?_)
    | (refine wpList_load_row rfl 23 (.tmp 3) rfl (w.heap.size + 1) rfl 23 (cellsB a).toArray (0, 0) _ (blk_a1 w _ _ _ _) under_key rfl (cellsB_size _ HA.out) ?_)
    | (refine wpList_buildTo rfl 23 #[] rfl (some 9) rfl (cellsB zeroK).toArray (by kernel_rfl) ?_))
  exact bodyPost_ret (results_cell_row rfl _ _ (w.heap.size + 1 + 1) _ _ (0, 0) _ rfl (HB2.out.setRow (cellsB zeroK).toArray) under_key rfl (cellsB_size _ rfl)) rfl ⟨by rw [HXS.out], below_setRow b0 (by omega) _⟩

set_option maxHeartbeats 1000000 in
set_option maxRecDepth 100000 in
theorem xor_any (a b : List UInt8) (w : World) (ha : a.length = 16) (hb : b.length = 16) : Calls Try.prog 163 #[.agg (cellsB a).toArray, .agg (cellsB b).toArray] w fun e w' => e = .returned (.agg (cellsB (xorS a b)).toArray) ∧ Below w.heap.size w w' := by
  by_cases hab : a = b
  · subst hab; exact xor_same a w ha
  have HA := Lib.hid ha
  have HB := Lib.hid hb
  have HZ := Lib.hid zero16
  have hz : ∀ W, (Op.equalIn 10000 23 (.agg (cellsB a).toArray) (.agg (cellsB b).toArray)).run Try.prog W = .ok false W := fun W => by rw [equalIn_keys W a b HA.out HB.out]; simp [hab]
  clear ha hb hab
  go_enter Try.func163, Try.ntmps163
  go_wp2_with (first
    | (rw [HZ.out]; refine wpList_load_row rfl 23 (.tmp 2) rfl w.heap.size rfl 23 (cellsB a).toArray (0, 0) _ (blk_a0 w _ _ _ _) under_key rfl (cellsB_size _ HA.out) ?_)
    | (refine wpList_load_row rfl 23 (.tmp 3) rfl (w.heap.size + 1) rfl 23 (cellsB b).toArray (0, 0) _ (blk_a1 w _ _ _ _) under_key rfl (cellsB_size _ HB.out) ?_))
  clear hz
  go_loopw [10] (fun vi wr => ∃ i : Nat, i ≤ 16 ∧ vi = .int .i64 (i : Int) ∧ Hid (Blk wr w.heap.size 23 (cellsB (xoP a b i)).toArray) ∧ Hid (Blk wr (w.heap.size + 1) 23 (cellsB b).toArray) ∧ Hid (Blk wr (w.heap.size + 1 + 1) 23 (cellsB zeroK).toArray) ∧ Below w.heap.size w wr) (fun vi _ => 16 - (intOf vi).toNat)
  case atStart => exact ⟨0, by omega, rfl, by rw [xoP_zero b HA.out]; exact blk_a0 _ _ _ _ _, blk_a1 _ _ _ _ _, blk_a2 _ _ _ _ _, alloc3_bel _ _ _ _⟩
  case round =>
    obtain ⟨i, hi, rfl, HB1, HB2, HB3, hbel⟩ := hrel
    by_cases hlt : i < 16
    · have hii : (i : Int) < 16 := by omega
      have c0 := HB1.out.cell i
      rw [bytes_get _ i (by rw [xoP_length]; exact hlt), xoP_at a b hlt] at c0
      have c1 := HB2.out.cell i
      rw [bytes_get _ i (by rw [HB.out]; exact hlt)] at c1
      have f0 := HB1.out.frozen i
      have HSET := Lib.hid (xoP_set (a := a) (b := b) hlt)
      obtain ⟨x, hx⟩ : ∃ x, a.getD i 0 = x := ⟨_, rfl⟩
      obtain ⟨y, hy⟩ : ∃ y, b.getD i 0 = y := ⟨_, rfl⟩
      rw [hx, hy] at HSET
      rw [hx] at c0
      rw [hy] at c1
      have HX : Hid (bits .xor .u8 (x.toNat : Int) (y.toNat : Int) = ((x ^^^ y).toNat : Int)) := xor_u8 _ _
      clear hx hy hlt
      go_wp2_with fail
      go_region
      all_goals
        rw [HX.out]
        go_wp2_with fail
        go_roundw
      all_goals first
        | exact ⟨i + 1, by omega, by go_num, by
            have h := HB1.out.drew.set_ i (.int .u8 ((x ^^^ y).toNat : Int))
            rw [bytes_set, HSET.out] at h
            exact h, HB2.out.drew.far (p := ⟨w.heap.size, i, none⟩) (by simp) _, HB3.out.drew.far (p := ⟨w.heap.size, i, none⟩) (by simp; omega) _, hbel.drew.setCell (p := ⟨w.heap.size, i, none⟩) (by simp) _⟩
        | (simp [intOf]; omega)
    · obtain rfl : i = 16 := by omega
      have B1 : Blk wr w.heap.size 23 (cellsB (xorS a b)).toArray := by rw [← xoP_fin]; exact HB1.out
      have HL : Hid ((xorS a b).length = 16) := xorS_length a b
      obtain ⟨r, hr⟩ : ∃ r, xorS a b = r := ⟨_, rfl⟩
      rw [hr] at B1 HL
      have HRX := Lib.hid hr
      have hl : (cellsB r).length = 16 := by rw [cellsB_length, HL.out]
      have hall := all16 r
      have hr3 : (rowAt wr (w.heap.size + 1 + 1)).size = 16 := by rw [HB3.out.row]; rfl
      have hf3 := HB3.out.free
      have HR1 := Lib.hid B1
      clear hr B1
      go_wp2_with (refine wpList_load_row rfl 23 (.tmp 2) rfl w.heap.size rfl 23 (cellsB r).toArray (0, 0) _ HR1.out under_key rfl (cellsB_size _ HL.out) ?_)
      exact bodyPost_ret (results_cell_row rfl _ _ (w.heap.size + 1 + 1) _ _ (0, 0) _ rfl (HB3.out.setRow (cellsB r).toArray) under_key rfl (cellsB_size _ HL.out)) rfl ⟨by rw [HRX.out], below_setRow hbel (by omega) _⟩

set_option maxHeartbeats 2000000 in
set_option maxRecDepth 100000 in
theorem hashStep_any (s p : List UInt8) (w : World) (hs : s.length = 16) (hp : p.length = 16) : Calls Try.prog 162 #[.agg (cellsB s).toArray, .agg (cellsB p).toArray] w fun e w' => e = .returned (.agg (cellsB (xorS (encS p s) s)).toArray) ∧ Below w.heap.size w w' := by
  have HS := Lib.hid hs
  have HP := Lib.hid hp
  have HZ := Lib.hid zero16
  have b0 := alloc3_bel w (.cells (cellsB s).toArray 23) (.cells (cellsB p).toArray 23) (.cells (cellsB zeroK).toArray 23)
  have B0 := Lib.hid (blk_a0 w (cellsB s).toArray 23 (.cells (cellsB p).toArray 23) (.cells (cellsB zeroK).toArray 23))
  have B1 := Lib.hid (blk_a1 w (.cells (cellsB s).toArray 23) (cellsB p).toArray 23 (.cells (cellsB zeroK).toArray 23))
  have B2 := Lib.hid (blk_a2 w (.cells (cellsB s).toArray 23) (.cells (cellsB p).toArray 23) (cellsB zeroK).toArray 23)
  have HEN : Hid (∀ W, Calls Try.prog 53 #[.agg (cellsB p).toArray, .agg (cellsB s).toArray] W fun e w' => e = .returned (.agg (cellsB (encS p s)).toArray) ∧ Below W.heap.size W w') := fun W => Encrypt_any p s W hp hs
  have HXO : Hid (∀ W, Calls Try.prog 163 #[.agg (cellsB (encS p s)).toArray, .agg (cellsB s).toArray] W fun e w' => e = .returned (.agg (cellsB (xorS (encS p s) s)).toArray) ∧ Below W.heap.size W w') := fun W => xor_any _ _ W rfl hs
  have HRL : Hid ((xorS (encS p s) s).length = 16) := xorS_length _ _
  generalize xorS (encS p s) s = r at HXO HRL
  generalize encS p s = t at HEN HXO
  clear hs hp
  go_enter Try.func162, Try.ntmps162
  go_wp2_with fail
  rw [HZ.out]
  obtain ⟨W, hW⟩ : ∃ W : World, W = ((w.alloc (.cells (cellsB s).toArray 23)).alloc (.cells (cellsB p).toArray 23)).alloc (.cells (cellsB zeroK).toArray 23) := ⟨_, rfl⟩
  rw [← hW] at b0 B0 B1 B2 ⊢
  clear hW
  refine wp_region_noPanic ?_
  refine wp_region_held_drew (S := fun w' => w'.rangeAt w.heap.size 0 (cellsB s) ∧ w'.rangeAt (w.heap.size + 1) 0 (cellsB p)) (by kernel_rfl) ⟨B0.out.drew.range, B1.out.drew.range⟩ (fun hS => ?_)
  refine hd_load 0 (w.heap.size + 1) 0 (cellsB p) _ _ rfl rfl rfl (by kernel_rfl) (by kernel_rfl) (by kernel_rfl) (fun _ _ _ h => h) rfl (fun w hw => hw.2) under_key rfl (key_info HP.out) hS ?_
  refine hd_load 1 w.heap.size 0 (cellsB s) _ _ rfl rfl rfl (by kernel_rfl) (by kernel_rfl) (by kernel_rfl) (fun _ _ _ h => h) rfl (fun w hw => hw.1) under_key rfl (key_info HS.out) hS ?_
  refine hd_load 3 w.heap.size 0 (cellsB s) _ _ rfl rfl rfl (by kernel_rfl) (by kernel_rfl) (by kernel_rfl) (fun _ _ _ h => h) rfl (fun w hw => hw.1) under_key rfl (key_info HS.out) hS ?_
  refine hd_calls 2 53 #[.agg (cellsB p).toArray, .agg (cellsB s).toArray] rfl rfl (by kernel_rfl) (by go_simp) ((HEN.out _).mono ?_)
  rintro e w5 ⟨rfl, hb5⟩
  have hS5 := And.intro (range_below hS.1 hb5) (range_below hS.2 hb5)
  refine ⟨_, rfl, hS5, ?_⟩
  refine hd_calls 4 163 #[.agg (cellsB t).toArray, .agg (cellsB s).toArray] rfl rfl (by kernel_rfl) (by go_simp) ((HXO.out _).mono ?_)
  rintro e w6 ⟨rfl, hb6⟩
  have hS6 := And.intro (range_below hS5.1 hb6) (range_below hS5.2 hb6)
  refine ⟨_, rfl, hS6, ?_⟩
  simp only [List.getElem_toArray, List.getElem_cons_succ, List.getElem_cons_zero, Act.put, List.setIfInBounds_toArray, List.set_cons_zero, List.set_cons_succ]
  have r6 := (B2.out.drew.below' hb5).below' hb6
  have b6 : Below w.heap.size w w6 := bel_on (bel_on (b0.drew) hb5) hb6
  refine hd_store 5 (w.heap.size + 1 + 1) (cellsB r).toArray _ _ _ rfl rfl rfl (by kernel_rfl) rfl rfl r6 (cellsB_size _ HRL.out) (by rw [List.size_toArray, List.size_toArray, cellsB_length, cellsB_length, HRL.out]; rfl) (all_oneCell_toArray (cells_one r)) ⟨range_setRow hS6.1 (by omega) _, range_setRow hS6.2 (by omega) _⟩ ?_
  refine wpAnyH_done (by kernel_rfl) (NoPanic.normal ?_) _
  simp only [List.getElem_toArray, List.getElem_cons_succ, List.getElem_cons_zero, Act.put, List.setIfInBounds_toArray, List.set_cons_zero, List.set_cons_succ]
  go_wp2_with fail
  exact bodyPost_ret (results_cell_row rfl _ _ (w.heap.size + 1 + 1) _ _ (0, 0) _ rfl (r6.setRow (cellsB r).toArray) under_key rfl (cellsB_size _ HRL.out)) rfl ⟨rfl, below_setRow b6 (by omega) _⟩
end Go.Proofs.Ytinpiodfpnbllaa

/- The program's fold over portions. -/
namespace Go.Proofs.Ytinpiodfpnbllaa
open Go.RowKit
set_option linter.unusedVariables false
attribute [local go_sem] run_storeCells_key

/-- The state after i portions, from s on. -/
def dgFold (all s : List UInt8) (i : Nat) : List UInt8 := (List.range i).foldl (dgStep all) s
theorem dgFold_zero (all s : List UInt8) : dgFold all s 0 = s := rfl
theorem dgFold_succ (all s : List UInt8) (i : Nat) : dgFold all s (i + 1) = dgStep all (dgFold all s i) i := by simp [dgFold, List.range_succ]
theorem dgFold_length {all s : List UInt8} (h : s.length = 16) (i : Nat) : (dgFold all s i).length = 16 := by
  cases i with
  | zero => exact h
  | succ i => rw [dgFold_succ]; exact dgStep_length _ _ _
theorem dgFold_dgN (all : List UInt8) (i : Nat) : dgFold all salt i = dgN all i := rfl
theorem padK_take {d : List UInt8} (h : 16 ≤ d.length) : padK d = d.take 16 := by
  refine List.ext_getElem (by simp [padK]; omega) fun i h1 h2 => ?_
  have : i < 16 := by simpa [padK] using h1
  simp [padK, List.getD, List.getElem?_eq_getElem (show i < d.length by omega)]
def lenV : Value → Nat
  | .slice _ n _ => n
  | _ => 0
theorem splice_all (p : List UInt8) (hp : p.length = 16) : splice (cellsB zeroK) 0 (cellsB p) = cellsB p := by
  have h1 : (cellsB p).length = 16 := by rw [cellsB_length, hp]
  have h2 : (cellsB zeroK).drop 16 = [] := rfl
  simp [splice, h1, h2]
theorem copy_src {w : World} {A : Option Addr} {c : Nat} {d : List UInt8} (h : BR w A c d) (n : Nat) : 0 < (cellsB (d.take n)).length → ∃ ad, A = some ad ∧ ∀ j v, (cellsB (d.take n))[j]? = some v → w.cell? (ad.add j) = some v := by
  intro hpos
  have hne : d.length ≠ 0 := by
    intro h0
    rw [List.eq_nil_of_length_eq_zero h0] at hpos
    simp [cellsB] at hpos
  obtain ⟨b, off, e, _, hc⟩ := h.2 hne
  refine ⟨_, e, fun j v hv => ?_⟩
  rw [Addr.add_lit]
  refine hc j v ?_
  have hj : j < (cellsB (d.take n)).length := by
    rcases Nat.lt_or_ge j (cellsB (d.take n)).length with h' | h'
    · exact h'
    · rw [List.getElem?_eq_none h'] at hv; cases hv
  rw [← hv]
  simp only [cellsB, List.getElem?_map, List.getElem?_take]
  rw [cellsB_length, List.length_take] at hj
  rw [if_pos (by omega)]

set_option maxHeartbeats 2000000 in
set_option maxRecDepth 100000 in
theorem fold_any (all s : List UInt8) (A : Option Addr) (c : Nat) (w : World) {L : Nat} (hL : all.length = L) (h16 : L % 16 = 0) (h : BR w A c all) (hs : s.length = 16) :
    Calls Try.prog 161 #[.agg (cellsB s).toArray, .slice A L c, .func (.func 162) #[] #[]] w fun e w' => e = .returned (.agg (cellsB (dgFold all s (L / 16))).toArray) ∧ Below w.heap.size w w' := by
  have hl0 : (L : Int) ≤ 140737488351232 := by have := h.len; omega
  have HL := Lib.hid hL
  have H := Lib.hid h
  have HS := Lib.hid hs
  have HZ := Lib.hid zero16
  have b0 := alloc2_bel w (.cells (cellsB s).toArray 23) (.cells (cellsB zeroK).toArray 23)
  have B0 := Lib.hid (blk_b0 w (cellsB s).toArray 23 (.cells (cellsB zeroK).toArray 23))
  have B1 := Lib.hid (blk_b1 w (.cells (cellsB s).toArray 23) (cellsB zeroK).toArray 23)
  clear hL h hs
  go_enter Try.func161, Try.ntmps161
  go_wp2_with fail
  rw [HZ.out]
  go_loopw [1] (fun vb wr => ∃ (i m : Nat) (A' : Option Addr) (c' : Nat), 16 * i + m = L ∧ vb = .slice A' m c' ∧ Hid (BR w A' c' (all.drop (16 * i))) ∧ Hid (Blk wr w.heap.size 23 (cellsB (dgFold all s i)).toArray) ∧ Hid (Blk wr (w.heap.size + 1) 23 (cellsB zeroK).toArray) ∧ Below w.heap.size w wr) (fun vb _ => lenV vb)
  case atStart => exact ⟨0, L, A, c, by omega, rfl, H.out, B0.out, B1.out, b0⟩
  case round =>
    obtain ⟨i, m, A', c', him, rfl, HR, HB0, HB1, hbel⟩ := hrel
    by_cases hm : 0 < m
    · have hmi : (0 : Int) < m := by omega
      have hm16 : 16 ≤ m := by omega
      have hml : (m : Int) ≤ 140737488351232 := by omega
      have hdl : (all.drop (16 * i)).length = m := by rw [List.length_drop, HL.out]; omega
      have hp16 : ((all.drop (16 * i)).take 16).length = 16 := by rw [List.length_take]; omega
      have HSUC : Hid (dgFold all s (i + 1) = xorS (encS ((all.drop (16 * i)).take 16) (dgFold all s i)) (dgFold all s i)) := by unfold Hid; rw [dgFold_succ, dgStep, padK_take (by omega)]
      have HDR := Lib.hid (HR.out.drop 16 (by omega))
      rw [List.drop_drop, show 16 * i + 16 = 16 * (i + 1) from by omega] at HDR
      have HSRC := Lib.hid (copy_src ((HR.out.below hbel).below (alloc_bel wr (.cells (cellsB zeroK).toArray 23))) 16)
      have HFL : Hid ((dgFold all s i).length = 16) := dgFold_length HS.out i
      have HDL := Lib.hid hdl
      generalize (all.drop (16 * i)).take 16 = p at hp16 HSUC HSRC
      generalize dgFold all s i = f at HSUC HB0 HFL
      have HPL := Lib.hid hp16
      have HST : Hid (∀ W, Calls Try.prog 162 #[.agg (cellsB f).toArray, .agg (cellsB p).toArray] W fun e w' => e = .returned (.agg (cellsB (xorS (encS p f) f)).toArray) ∧ Below W.heap.size W w') := fun W => hashStep_any f p W HFL.out hp16
      have HRL : Hid ((xorS (encS p f) f).length = 16) := xorS_length _ _
      generalize xorS (encS p f) f = r at HSUC HST HRL
      have hrl : (cellsB r).length = 16 := by rw [cellsB_length, HRL.out]
      have hra := all16 r
      have hsl : ∀ W, (Instr.slice 24 (.slice A' m c') (some (.int .i64 16)) none none).run Try.prog W = .ok (.slice (dropP A' 16 c') (m - 16) (c' - 16)) W := fun W => slice_bytes_from W A' m c' 16 hm16
      clear hp16 hdl
      go_wp2_with (first
        | (rw [HZ.out]; refine wpList_copy_splice rfl (.tmp 12) (.tmp 13) 24 24 rfl 5 Try.underlying24 (by kernel_rfl) (some ⟨wr.heap.size, 0, none⟩) A' 16 16 m c' rfl rfl wr.heap.size 0 (cellsB zeroK) 23 (Blk.new wr _ _) (cellsB p) (by rw [cellsB_length, HPL.out]; simp [Nat.min_def]; omega) (fun h => ⟨rfl, HSRC.out h⟩) (by rw [cellsB_length, HPL.out]; exact Nat.le_refl _) (cells_one p) wr.heap.size wr (alloc_bel _ _) (Nat.le_refl _) ?_; intro w4 hg4 hb4; rw [splice_all p HPL.out] at hg4; have G4 := hg4; rw [show (goInt (cellsB p).length) = .int .i64 16 from by rw [cellsB_length, HPL.out]; rfl])
        | (refine wpList_load_row rfl 23 (.tmp 3) rfl w.heap.size rfl 23 (cellsB f).toArray (0, 0) _ (HB0.out.below' hb4) under_key rfl (cellsB_size _ HFL.out) ?_)
        | (refine wpList_load_row rfl 23 (.tmp 7) rfl wr.heap.size rfl 23 (cellsB p).toArray (0, 0) _ G4.out under_key rfl (cellsB_size _ HPL.out) ?_)
        | (go_at_call 162; refine (HST.out _).mono ?_; rintro e w5 ⟨rfl, hb5⟩; have Q0 := (HB0.out.below' hb4).below' hb5; have Q1 := Lib.hid ((HB1.out.below' hb4).below' hb5); have hr5 : (rowAt w5 w.heap.size).size = 16 := (by rw [Q0.row]; rw [List.size_toArray, cellsB_length, HFL.out]); have hf5 := Q0.free; have HQ0 := Lib.hid Q0; have b5 := bel_on (w0 := wr) hb4 hb5; clear Q0))
      have hbF := below_setRow (bel_on hbel b5) (g := w.heap.size) (Nat.le_refl _) (cellsB r).toArray
      exact ⟨⟨i + 1, m - 16, dropP A' 16 c', c' - 16, by omega, rfl, HDR.out, by rw [HSUC.out]; exact HQ0.out.setRow _, (setRow_other _ _ _ _ (by omega)).trans Q1.out, hbF⟩, by simp only [lenV]; omega⟩
    · obtain rfl : m = 0 := by omega
      have HI : Hid (L / 16 = i) := by unfold Hid; omega
      have HFL : Hid ((dgFold all s i).length = 16) := dgFold_length HS.out i
      obtain ⟨f, hf⟩ : ∃ f, dgFold all s i = f := ⟨_, rfl⟩
      rw [hf] at HB0 HFL
      have HF := Lib.hid hf
      have hfl : (cellsB f).length = 16 := by rw [cellsB_length, HFL.out]
      have hall := all16 f
      have hr3 : (rowAt wr (w.heap.size + 1)).size = 16 := by rw [HB1.out.row]; rfl
      have hf3 := HB1.out.free
      clear hf
      go_wp2_with (refine wpList_load_row rfl 23 (.tmp 3) rfl w.heap.size rfl 23 (cellsB f).toArray (0, 0) _ HB0.out under_key rfl (cellsB_size _ HFL.out) ?_)
      exact bodyPost_ret (results_cell_row rfl _ _ (w.heap.size + 1) _ _ (0, 0) _ rfl (HB1.out.setRow (cellsB f).toArray) under_key rfl (cellsB_size _ HFL.out)) rfl ⟨by rw [HI.out, HF.out], below_setRow hbel (by omega) _⟩
end Go.Proofs.Ytinpiodfpnbllaa

/- The padded text as the program makes it, in plain words. -/
namespace Go.Proofs.Ytinpiodfpnbllaa
set_option linter.unusedVariables false

theorem by8_small {n : Nat} (h : n < 65536) : by8 (UInt64.ofNat n) = [0, 0, 0, 0, 0, 0, UInt8.ofNat (n / 256), UInt8.ofNat n] := by
  have hn : (UInt64.ofNat n).toNat = n := by rw [UInt64.toNat_ofNat', Nat.mod_eq_of_lt (by omega)]
  have g : ∀ k : Nat, k < 64 → ((UInt64.ofNat n) >>> (UInt64.ofNat k)).toUInt8 = UInt8.ofNat (n / 2 ^ k) := fun k hk => by
    apply UInt8.toNat_inj.1
    rw [UInt64.toNat_toUInt8, toNat_shr _ _ hk, hn]
    simp
  have z : ∀ k : Nat, 16 ≤ k → UInt8.ofNat (n / 2 ^ k) = 0 := fun k hk => by
    have : n / 2 ^ k = 0 := Nat.div_eq_of_lt (Nat.lt_of_lt_of_le h (show 2 ^ 16 ≤ 2 ^ k from Nat.pow_le_pow_right (by decide) hk))
    rw [this]; rfl
  have g0 : (UInt64.ofNat n).toUInt8 = UInt8.ofNat n := by
    apply UInt8.toNat_inj.1
    rw [UInt64.toNat_toUInt8, hn]
    simp
  unfold by8
  rw [show (56 : UInt64) = UInt64.ofNat 56 from rfl, show (48 : UInt64) = UInt64.ofNat 48 from rfl, show (40 : UInt64) = UInt64.ofNat 40 from rfl, show (32 : UInt64) = UInt64.ofNat 32 from rfl, show (24 : UInt64) = UInt64.ofNat 24 from rfl, show (16 : UInt64) = UInt64.ofNat 16 from rfl, show (8 : UInt64) = UInt64.ofNat 8 from rfl]
  rw [g 56 (by omega), g 48 (by omega), g 40 (by omega), g 32 (by omega), g 24 (by omega), g 16 (by omega), g 8 (by omega), g0, z 56 (by omega), z 48 (by omega), z 40 (by omega), z 32 (by omega), z 24 (by omega), z 16 (by omega)]

/-- The text as it is filled in. -/
theorem padB_sets (b : List UInt8) {n L : Nat} (hL : b.length = L) (h : L < 65536) (hn : n = L + 9 + padZ L) :
    (((b ++ List.replicate (n - L) 0).set L 128).set (n - 2) (UInt8.ofNat (L / 256))).set (n - 1) (UInt8.ofNat L) = padB b := by
  have hz : padZ L ≤ 15 := by unfold padZ; omega
  refine List.ext_getElem? fun i => ?_
  rw [padB, hL, by8_small h]
  simp only [List.getElem?_set, List.getElem?_append, List.getElem?_replicate, List.getElem?_cons, List.length_set, List.length_append, List.length_replicate, hL]
  by_cases h1 : n - 1 = i
  · subst h1
    rw [if_pos rfl, if_pos (by omega), if_neg (by omega), if_neg (by omega), if_neg (by omega), show n - 1 - L - 1 - padZ L = 7 from by omega]
    rfl
  · rw [if_neg h1]
    by_cases h2 : n - 2 = i
    · subst h2
      rw [if_pos rfl, if_pos (by omega), if_neg (by omega), if_neg (by omega), if_neg (by omega), show n - 2 - L - 1 - padZ L = 6 from by omega]
      rfl
    · rw [if_neg h2]
      by_cases h3 : L = i
      · subst h3
        rw [if_pos rfl, if_pos (by omega), if_neg (by omega), if_pos (by omega)]
      · rw [if_neg h3]
        by_cases h4 : i < L
        · rw [if_pos h4, if_pos h4]
        · rw [if_neg h4, if_neg h4, if_neg (show ¬ i - L = 0 by omega)]
          by_cases h5 : i < n
          · rw [if_pos (show i - L < n - L by omega)]
            by_cases h6 : i - L - 1 < padZ L
            · rw [if_pos h6, if_pos h6]
            · rw [if_neg h6]
              obtain ⟨j, hj⟩ : ∃ j, i - L - 1 - padZ L = j := ⟨_, rfl⟩
              rw [hj]
              have : j < 6 := by omega
              match j, this with
              | 0, _ => rfl
              | 1, _ => rfl
              | 2, _ => rfl
              | 3, _ => rfl
              | 4, _ => rfl
              | 5, _ => rfl
          · rw [if_neg (show ¬ i - L < n - L by omega), if_neg (show ¬ i - L - 1 < padZ L by omega)]
            obtain ⟨j, hj⟩ : ∃ j, i - L - 1 - padZ L = j + 8 := ⟨i - L - 1 - padZ L - 8, by omega⟩
            rw [hj]
            rfl
end Go.Proofs.Ytinpiodfpnbllaa

/- The first state of a digest, in plain words. -/
namespace Go.Proofs.Ytinpiodfpnbllaa
set_option linter.unusedVariables false

def saltJ (i : Nat) : List UInt8 := List.replicate i 90 ++ List.replicate (16 - i) 0
theorem saltJ_length {i : Nat} (h : i ≤ 16) : (saltJ i).length = 16 := by simp [saltJ]; omega
theorem saltJ_set {i : Nat} (h : i < 16) : (saltJ i).set i 90 = saltJ (i + 1) := by
  refine List.ext_getElem? fun j => ?_
  simp only [saltJ, List.getElem?_set, List.getElem?_append, List.getElem?_replicate, List.length_replicate, List.length_append]
  by_cases h1 : i = j
  · subst h1
    rw [if_pos rfl, if_pos (by omega), if_pos (by omega), if_pos (by omega)]
  · rw [if_neg h1]
    by_cases h2 : j < i
    · rw [if_pos h2, if_pos h2, if_pos (by omega), if_pos (by omega)]
    · rw [if_neg h2, if_neg (show ¬ j < i + 1 by omega)]
      by_cases h3 : j < 16
      · rw [if_pos (by omega), if_pos (by omega)]
      · rw [if_neg (by omega), if_neg (by omega)]
end Go.Proofs.Ytinpiodfpnbllaa

/- The program's Hash, for texts that are not too long. -/
namespace Go.Proofs.Ytinpiodfpnbllaa
open Go.RowKit
set_option linter.unusedVariables false
attribute [local go_sem] run_storeCells_key

theorem splice_head (b : List UInt8) {n L : Nat} (hL : b.length = L) (h : L ≤ n) : splice (cellsB (List.replicate n 0)) 0 (cellsB b) = cellsB (b ++ List.replicate (n - L) 0) := by
  simp [splice, cellsB, hL]
theorem copy_src_all {w : World} {A : Option Addr} {c : Nat} {d : List UInt8} (h : BR w A c d) : 0 < (cellsB d).length → ∃ ad, A = some ad ∧ ∀ j v, (cellsB d)[j]? = some v → w.cell? (ad.add j) = some v := by
  have := copy_src h d.length
  rwa [List.take_length] at this

set_option maxHeartbeats 2000000 in
set_option maxRecDepth 100000 in
theorem Hash_any (b : List UInt8) (A : Option Addr) (c : Nat) (w : World) {L : Nat} (hL : b.length = L) (h : BR w A c b) (hl : L ≤ 16384) :
    Calls Try.prog 148 #[.slice A L c] w fun e w' => e = .returned (.tuple #[.agg (cellsB (digS b)).toArray, .int .i64 0]) ∧ Below w.heap.size w w' := by
  have hl1 : (L : Int) ≤ 16384 := by omega
  have HL := Lib.hid hL
  have H := Lib.hid h
  have HZ := Lib.hid zero16
  obtain ⟨n, hn⟩ : ∃ n, n = L + 9 + padZ L := ⟨_, rfl⟩
  have hn16 : n % 16 = 0 := by rw [hn]; unfold padZ; omega
  have hnb : n ≤ 20000 := by rw [hn]; unfold padZ; omega
  have hnL : L + 9 ≤ n := by omega
  have HSETS := Lib.hid (padB_sets b hL (by omega) hn)
  have HPL : Hid ((padB b).length = n) := by unfold Hid; rw [padB_length, hL, hn]
  have HDG : Hid (digS b = dgFold (padB b) salt (n / 16)) := by unfold Hid digS; rw [HPL.out, dgFold_dgN]
  have hmk := run_make_row' (P := Try.prog) 24 5 (.int .u8 0) 1 Try.underlying24 (by kernel_rfl) rfl .i64 .i64 n (by omega) (by omega)
  have HMB := Lib.hid (made_bytes n)
  have hnI : (n : Int) = (L : Int) / 16 * 16 + 16 + (if (7 : Int) < (L : Int) % 16 then 16 else 0) := by
    rw [hn]; unfold padZ
    split <;> omega
  have HSRC := Lib.hid (fun W (hW : Below w.heap.size w W) => copy_src_all (h.below hW))
  by_cases hr : (7 : Int) < (L : Int) % 16
  · rw [if_pos hr] at hnI
    have HNI := Lib.hid hnI
    clear hL h hl hn hnI
    go_enter Try.func148, Try.ntmps148
    go_wp2_with (first
      | (rw [← HNI.out])
      | (rw [HMB.out, HZ.out]; refine wpList_copy_splice rfl (.tmp 25) (.tmp 26) 24 24 rfl 5 Try.underlying24 (by kernel_rfl) (some ⟨w.heap.size + 1, 0, none⟩) A n n L c rfl rfl (w.heap.size + 1) 0 (cellsB (List.replicate n 0)) 5 (blk_b1 w _ _ _) (cellsB b) (by rw [cellsB_length, HL.out]; simp [Nat.min_def]; omega) (fun h => ⟨rfl, HSRC.out _ (alloc2_bel w _ _) h⟩) (by rw [cellsB_length, HL.out, cellsB_length, List.length_replicate]; omega) (cells_one b) (w.heap.size + 1) (w.alloc (.cells (cellsB zeroK).toArray 23)) ((Below.refl _ _).alloc (by simp) _) (Nat.le_refl _) ?_; intro w4 hg4 hb4; rw [splice_head b HL.out (by omega)] at hg4; have G4 : Hid (Blk w4 (w.heap.size + 1) 5 (cellsB (b ++ List.replicate (n - L) 0)).toArray) := hg4; clear hg4; have R4 := Lib.hid ((Blk.new w 23 (cellsB zeroK).toArray).below hb4 (by omega)); have b4 := (alloc_bel w (.cells (cellsB zeroK).toArray 23)).trans (hb4.mono (by omega)); have c4 := G4.out.cell L; rw [bytes_get _ L (by rw [List.length_append, List.length_replicate, HL.out]; omega)] at c4; have f4 := G4.out.frozen L; have c5 := G4.out.cell (n - 2); rw [bytes_get _ (n - 2) (by rw [List.length_append, List.length_replicate, HL.out]; omega)] at c5; have f5 := G4.out.frozen (n - 2); have c6 := G4.out.cell (n - 1); rw [bytes_get _ (n - 1) (by rw [List.length_append, List.length_replicate, HL.out]; omega)] at c6; have f6 := G4.out.frozen (n - 1); clear hb4))
    have e1 : ((128 : UInt8).toNat : Int) = 128 := rfl
    have e2 : ((UInt8.ofNat (L / 256)).toNat : Int) = (L : Int) / 256 := by rw [UInt8.toNat_ofNat']; omega
    have e3 : ((UInt8.ofNat L).toNat : Int) = (L : Int) % 256 := by rw [UInt8.toNat_ofNat']; omega
    have G9 := ((G4.out.set_ L (.int .u8 ((128 : UInt8).toNat : Int))).set_ (n - 2) (.int .u8 ((UInt8.ofNat (L / 256)).toNat : Int))).set_ (n - 1) (.int .u8 ((UInt8.ofNat L).toNat : Int))
    rw [bytes_set, bytes_set, bytes_set, HSETS.out, e1, e2, e3] at G9
    have RZ := (((R4.out.far (p := ⟨w.heap.size + 1, L, none⟩) (by simp) (.int .u8 128)).far (p := ⟨w.heap.size + 1, n - 2, none⟩) (by simp) (.int .u8 ((L : Int) / 256))).far (p := ⟨w.heap.size + 1, n - 1, none⟩) (by simp) (.int .u8 ((L : Int) % 256)))
    have b3 := ((b4.setCell (p := ⟨w.heap.size + 1, L, none⟩) (by simp) (.int .u8 128)).setCell (p := ⟨w.heap.size + 1, n - 2, none⟩) (by simp) (.int .u8 ((L : Int) / 256))).setCell (p := ⟨w.heap.size + 1, n - 1, none⟩) (by simp) (.int .u8 ((L : Int) % 256))
    have hgl : w.heap.size + 1 < w4.heap.size := G4.out.lt
    rw [HZ.out]
    obtain ⟨W3, hW3⟩ : ∃ W : World, W = ((w4.setCell ⟨w.heap.size + 1, L, none⟩ (.int .u8 128)).setCell ⟨w.heap.size + 1, n - 2, none⟩ (.int .u8 ((L : Int) / 256))).setCell ⟨w.heap.size + 1, n - 1, none⟩ (.int .u8 ((L : Int) % 256)) := ⟨_, rfl⟩
    have hsz : W3.heap.size = w4.heap.size := by rw [hW3]; simp
    rw [← hW3] at G9 RZ b3 ⊢
    have N9 : Blk (W3.alloc (.cells (cellsB zeroK).toArray 23)) w4.heap.size 23 (cellsB zeroK).toArray := by rw [← hsz]; exact Blk.new _ _ _
    have G9' := G9.alloc (.cells (cellsB zeroK).toArray 23)
    have RZ' := RZ.alloc (.cells (cellsB zeroK).toArray 23)
    have b9 := b3.alloc b3.size (.cells (cellsB zeroK).toArray 23)
    generalize W3.alloc (.cells (cellsB zeroK).toArray 23) = W9 at N9 G9' RZ' b9 ⊢
    clear hW3 hsz G9 RZ b3 c4 c5 c6 f4 f5 f6 e1 e2 e3
    have HN9 := Lib.hid N9
    have HG9 := Lib.hid G9'
    have HRZ := Lib.hid RZ'
    clear N9 G9' RZ'
    go_loopw [47] (fun vi wr => ∃ i : Nat, i ≤ 16 ∧ vi = .int .i64 (i : Int) ∧ Hid (Blk wr w4.heap.size 23 (cellsB (saltJ i)).toArray) ∧ Hid (Blk wr (w.heap.size + 1) 5 (cellsB (padB b)).toArray) ∧ Hid (Blk wr w.heap.size 23 (cellsB zeroK).toArray) ∧ Below w.heap.size w wr) (fun vi _ => 16 - (intOf vi).toNat)
    case atStart => exact ⟨0, by omega, rfl, HN9.out, HG9.out, HRZ.out, b9⟩
    case round =>
      obtain ⟨i, hi, rfl, HB1, HG, HB0, hbel⟩ := hrel
      by_cases hlt : i < 16
      · have hii : (i : Int) < 16 := by omega
        have c0 := HB1.out.cell i
        rw [bytes_get _ i (by rw [saltJ_length hi]; exact hlt)] at c0
        have f0 := HB1.out.frozen i
        have HSET := Lib.hid (saltJ_set hlt)
        clear hlt
        go_wp2_with fail
        refine ⟨⟨i + 1, by omega, by go_num, ?_, HG.out.far (p := ⟨w4.heap.size, i, none⟩) (by simp; omega) _, HB0.out.far (p := ⟨w4.heap.size, i, none⟩) (by simp; omega) _, hbel.setCell (p := ⟨w4.heap.size, i, none⟩) (by simp; omega) _⟩, by simp [intOf]; omega⟩
        have h := HB1.out.set_ i (.int .u8 ((90 : UInt8).toNat : Int))
        rw [bytes_set, HSET.out] at h
        exact h
      · obtain rfl : i = 16 := by omega
        rw [show saltJ 16 = salt from rfl] at HB1
        have HFO : Hid (∀ W, BR W (some ⟨w.heap.size + 1, 0, none⟩) n (padB b) → Calls Try.prog 161 #[.agg (cellsB salt).toArray, .slice (some ⟨w.heap.size + 1, 0, none⟩) n n, .func (.func 162) #[] #[]] W fun e w' => e = .returned (.agg (cellsB (dgFold (padB b) salt (n / 16))).toArray) ∧ Below W.heap.size W w') := fun W hW => fold_any (padB b) salt _ n W HPL.out hn16 hW rfl
        have HBR : Hid (BR wr (some ⟨w.heap.size + 1, 0, none⟩) n (padB b)) := (HG.out.ob (Nat.le_refl _) HPL.out rfl (by omega)).br (by rw [HPL.out]; omega)
        have HSL : Hid (salt.length = 16) := rfl
        have HFL : Hid ((dgFold (padB b) salt (n / 16)).length = 16) := dgFold_length rfl _
        generalize dgFold (padB b) salt (n / 16) = f at HFO HFL HDG
        generalize salt = s0 at HB1 HFO HSL
        have hfl : (cellsB f).length = 16 := by rw [cellsB_length, HFL.out]
        have hall := all16 f
        go_wp2_with (first
          | (refine wpList_load_row rfl 23 (.tmp 6) rfl w4.heap.size rfl 23 (cellsB s0).toArray (0, 0) _ HB1.out under_key rfl (cellsB_size _ HSL.out) ?_)
          | (go_at_call 161; refine (HFO.out _ HBR.out).mono ?_; rintro e w5 ⟨rfl, hb5⟩; have Q5 := HB0.out.below' hb5; have hr5 : (rowAt w5 w.heap.size).size = 16 := (by rw [Q5.row]; rfl); have hf5 := Q5.free; have HQ5 := Lib.hid Q5; have bb5 := bel_on hbel hb5; clear Q5))
        refine bodyPost_ret (v := .tuple #[.agg (cellsB f).toArray, .int .i64 0]) ?_ rfl ⟨by rw [HDG.out], below_setRow bb5 (Nat.le_refl _) _⟩
        rw [results_cell_tmp Try.results148]
        simp [asAddr, Result.andThen, run_loadVar_row _ w.heap.size _ _ _ (0, 0) _ (HQ5.out.setRow (cellsB f).toArray) under_key rfl (cellsB_size _ HFL.out)]
  · rw [if_neg hr, Int.add_zero] at hnI
    have hr : (L : Int) % 16 ≤ 7 := by omega
    have HNI := Lib.hid hnI
    clear hL h hl hn hnI
    go_enter Try.func148, Try.ntmps148
    go_wp2_with (first
      | (rw [← HNI.out])
      | (rw [HMB.out, HZ.out]; refine wpList_copy_splice rfl (.tmp 25) (.tmp 26) 24 24 rfl 5 Try.underlying24 (by kernel_rfl) (some ⟨w.heap.size + 1, 0, none⟩) A n n L c rfl rfl (w.heap.size + 1) 0 (cellsB (List.replicate n 0)) 5 (blk_b1 w _ _ _) (cellsB b) (by rw [cellsB_length, HL.out]; simp [Nat.min_def]; omega) (fun h => ⟨rfl, HSRC.out _ (alloc2_bel w _ _) h⟩) (by rw [cellsB_length, HL.out, cellsB_length, List.length_replicate]; omega) (cells_one b) (w.heap.size + 1) (w.alloc (.cells (cellsB zeroK).toArray 23)) ((Below.refl _ _).alloc (by simp) _) (Nat.le_refl _) ?_; intro w4 hg4 hb4; rw [splice_head b HL.out (by omega)] at hg4; have G4 : Hid (Blk w4 (w.heap.size + 1) 5 (cellsB (b ++ List.replicate (n - L) 0)).toArray) := hg4; clear hg4; have R4 := Lib.hid ((Blk.new w 23 (cellsB zeroK).toArray).below hb4 (by omega)); have b4 := (alloc_bel w (.cells (cellsB zeroK).toArray 23)).trans (hb4.mono (by omega)); have c4 := G4.out.cell L; rw [bytes_get _ L (by rw [List.length_append, List.length_replicate, HL.out]; omega)] at c4; have f4 := G4.out.frozen L; have c5 := G4.out.cell (n - 2); rw [bytes_get _ (n - 2) (by rw [List.length_append, List.length_replicate, HL.out]; omega)] at c5; have f5 := G4.out.frozen (n - 2); have c6 := G4.out.cell (n - 1); rw [bytes_get _ (n - 1) (by rw [List.length_append, List.length_replicate, HL.out]; omega)] at c6; have f6 := G4.out.frozen (n - 1); clear hb4))
    have e1 : ((128 : UInt8).toNat : Int) = 128 := rfl
    have e2 : ((UInt8.ofNat (L / 256)).toNat : Int) = (L : Int) / 256 := by rw [UInt8.toNat_ofNat']; omega
    have e3 : ((UInt8.ofNat L).toNat : Int) = (L : Int) % 256 := by rw [UInt8.toNat_ofNat']; omega
    have G9 := ((G4.out.set_ L (.int .u8 ((128 : UInt8).toNat : Int))).set_ (n - 2) (.int .u8 ((UInt8.ofNat (L / 256)).toNat : Int))).set_ (n - 1) (.int .u8 ((UInt8.ofNat L).toNat : Int))
    rw [bytes_set, bytes_set, bytes_set, HSETS.out, e1, e2, e3] at G9
    have RZ := (((R4.out.far (p := ⟨w.heap.size + 1, L, none⟩) (by simp) (.int .u8 128)).far (p := ⟨w.heap.size + 1, n - 2, none⟩) (by simp) (.int .u8 ((L : Int) / 256))).far (p := ⟨w.heap.size + 1, n - 1, none⟩) (by simp) (.int .u8 ((L : Int) % 256)))
    have b3 := ((b4.setCell (p := ⟨w.heap.size + 1, L, none⟩) (by simp) (.int .u8 128)).setCell (p := ⟨w.heap.size + 1, n - 2, none⟩) (by simp) (.int .u8 ((L : Int) / 256))).setCell (p := ⟨w.heap.size + 1, n - 1, none⟩) (by simp) (.int .u8 ((L : Int) % 256))
    have hgl : w.heap.size + 1 < w4.heap.size := G4.out.lt
    rw [HZ.out]
    obtain ⟨W3, hW3⟩ : ∃ W : World, W = ((w4.setCell ⟨w.heap.size + 1, L, none⟩ (.int .u8 128)).setCell ⟨w.heap.size + 1, n - 2, none⟩ (.int .u8 ((L : Int) / 256))).setCell ⟨w.heap.size + 1, n - 1, none⟩ (.int .u8 ((L : Int) % 256)) := ⟨_, rfl⟩
    have hsz : W3.heap.size = w4.heap.size := by rw [hW3]; simp
    rw [← hW3] at G9 RZ b3 ⊢
    have N9 : Blk (W3.alloc (.cells (cellsB zeroK).toArray 23)) w4.heap.size 23 (cellsB zeroK).toArray := by rw [← hsz]; exact Blk.new _ _ _
    have G9' := G9.alloc (.cells (cellsB zeroK).toArray 23)
    have RZ' := RZ.alloc (.cells (cellsB zeroK).toArray 23)
    have b9 := b3.alloc b3.size (.cells (cellsB zeroK).toArray 23)
    generalize W3.alloc (.cells (cellsB zeroK).toArray 23) = W9 at N9 G9' RZ' b9 ⊢
    clear hW3 hsz G9 RZ b3 c4 c5 c6 f4 f5 f6 e1 e2 e3
    have HN9 := Lib.hid N9
    have HG9 := Lib.hid G9'
    have HRZ := Lib.hid RZ'
    clear N9 G9' RZ'
    go_loopw [47] (fun vi wr => ∃ i : Nat, i ≤ 16 ∧ vi = .int .i64 (i : Int) ∧ Hid (Blk wr w4.heap.size 23 (cellsB (saltJ i)).toArray) ∧ Hid (Blk wr (w.heap.size + 1) 5 (cellsB (padB b)).toArray) ∧ Hid (Blk wr w.heap.size 23 (cellsB zeroK).toArray) ∧ Below w.heap.size w wr) (fun vi _ => 16 - (intOf vi).toNat)
    case atStart => exact ⟨0, by omega, rfl, HN9.out, HG9.out, HRZ.out, b9⟩
    case round =>
      obtain ⟨i, hi, rfl, HB1, HG, HB0, hbel⟩ := hrel
      by_cases hlt : i < 16
      · have hii : (i : Int) < 16 := by omega
        have c0 := HB1.out.cell i
        rw [bytes_get _ i (by rw [saltJ_length hi]; exact hlt)] at c0
        have f0 := HB1.out.frozen i
        have HSET := Lib.hid (saltJ_set hlt)
        clear hlt
        go_wp2_with fail
        refine ⟨⟨i + 1, by omega, by go_num, ?_, HG.out.far (p := ⟨w4.heap.size, i, none⟩) (by simp; omega) _, HB0.out.far (p := ⟨w4.heap.size, i, none⟩) (by simp; omega) _, hbel.setCell (p := ⟨w4.heap.size, i, none⟩) (by simp; omega) _⟩, by simp [intOf]; omega⟩
        have h := HB1.out.set_ i (.int .u8 ((90 : UInt8).toNat : Int))
        rw [bytes_set, HSET.out] at h
        exact h
      · obtain rfl : i = 16 := by omega
        rw [show saltJ 16 = salt from rfl] at HB1
        have HFO : Hid (∀ W, BR W (some ⟨w.heap.size + 1, 0, none⟩) n (padB b) → Calls Try.prog 161 #[.agg (cellsB salt).toArray, .slice (some ⟨w.heap.size + 1, 0, none⟩) n n, .func (.func 162) #[] #[]] W fun e w' => e = .returned (.agg (cellsB (dgFold (padB b) salt (n / 16))).toArray) ∧ Below W.heap.size W w') := fun W hW => fold_any (padB b) salt _ n W HPL.out hn16 hW rfl
        have HBR : Hid (BR wr (some ⟨w.heap.size + 1, 0, none⟩) n (padB b)) := (HG.out.ob (Nat.le_refl _) HPL.out rfl (by omega)).br (by rw [HPL.out]; omega)
        have HSL : Hid (salt.length = 16) := rfl
        have HFL : Hid ((dgFold (padB b) salt (n / 16)).length = 16) := dgFold_length rfl _
        generalize dgFold (padB b) salt (n / 16) = f at HFO HFL HDG
        generalize salt = s0 at HB1 HFO HSL
        have hfl : (cellsB f).length = 16 := by rw [cellsB_length, HFL.out]
        have hall := all16 f
        go_wp2_with (first
          | (refine wpList_load_row rfl 23 (.tmp 6) rfl w4.heap.size rfl 23 (cellsB s0).toArray (0, 0) _ HB1.out under_key rfl (cellsB_size _ HSL.out) ?_)
          | (go_at_call 161; refine (HFO.out _ HBR.out).mono ?_; rintro e w5 ⟨rfl, hb5⟩; have Q5 := HB0.out.below' hb5; have hr5 : (rowAt w5 w.heap.size).size = 16 := (by rw [Q5.row]; rfl); have hf5 := Q5.free; have HQ5 := Lib.hid Q5; have bb5 := bel_on hbel hb5; clear Q5))
        refine bodyPost_ret (v := .tuple #[.agg (cellsB f).toArray, .int .i64 0]) ?_ rfl ⟨by rw [HDG.out], below_setRow bb5 (Nat.le_refl _) _⟩
        rw [results_cell_tmp Try.results148]
        simp [asAddr, Result.andThen, run_loadVar_row _ w.heap.size _ _ _ (0, 0) _ (HQ5.out.setRow (cellsB f).toArray) under_key rfl (cellsB_size _ HFL.out)]
end Go.Proofs.Ytinpiodfpnbllaa

/- The program's digest of a text that is not too long, and of a leaf. -/
namespace Go.Proofs.Ytinpiodfpnbllaa
open Go.RowKit
set_option linter.unusedVariables false
attribute [local go_sem] run_storeCells_key run_storeCells_new

set_option maxHeartbeats 1000000 in
set_option maxRecDepth 100000 in
theorem digest_any (b : List UInt8) (A : Option Addr) (c : Nat) (w : World) {L : Nat} (hL : b.length = L) (h : BR w A c b) (hl : L ≤ 16384) :
    Calls Try.prog 122 #[.slice A L c] w fun e w' => e = .returned (.agg (cellsB (digS b)).toArray) ∧ Below w.heap.size w w' := by
  have HZ := Lib.hid zero16
  have b0 := alloc_bel w (.cells (cellsB zeroK).toArray 23)
  have B0 := Lib.hid (Blk.new w 23 (cellsB zeroK).toArray)
  have HH : Hid (∀ W, Below w.heap.size w W → Calls Try.prog 148 #[.slice A L c] W fun e w' => e = .returned (.tuple #[.agg (cellsB (digS b)).toArray, .int .i64 0]) ∧ Below W.heap.size W w') := fun W hW => Hash_any b A c W hL (h.below hW) hl
  have HDL : Hid ((digS b).length = 16) := digS_length b
  generalize digS b = d at HH HDL
  have hdc : (cellsB d).length = 16 := by rw [cellsB_length, HDL.out]
  have hall := all16 d
  clear hL h hl
  go_enter Try.func122, Try.ntmps122
  go_wp2_with (first
    | (go_at_call 148; rw [HZ.out]; refine (HH.out _ b0).mono ?_; rintro e w1 ⟨rfl, hb1⟩; have b1 := bel_on b0 hb1; have Q1 := (B0.out.below' hb1).alloc (.cells (cellsB d).toArray 23); have hr1 : (rowAt (w1.alloc (.cells (cellsB d).toArray 23)) w.heap.size).size = 16 := (by rw [Q1.row]; rfl); have hf1 := Q1.free; have HQ1 := Lib.hid Q1; clear Q1)
    | (refine wpList_load_row rfl 23 (.tmp 3) rfl w1.heap.size rfl 23 (cellsB d).toArray (0, 0) _ (Blk.new w1 _ _) under_key rfl (cellsB_size _ HDL.out) ?_))
  exact bodyPost_ret (results_cell_row rfl _ _ w.heap.size _ _ (0, 0) _ rfl (HQ1.out.setRow (cellsB d).toArray) under_key rfl (cellsB_size _ HDL.out)) rfl ⟨rfl, below_setRow (b1.alloc b1.size _) (Nat.le_refl _) _⟩
set_option maxHeartbeats 1000000 in
set_option maxRecDepth 100000 in
theorem leafHash_any (k : List UInt8) (w : World) (hk : k.length = 16) :
    Calls Try.prog 123 #[.agg (cellsB k).toArray] w fun e w' => e = .returned (.agg (cellsB (digS (leafT k))).toArray) ∧ Below w.heap.size w w' := by
  have HZ := Lib.hid zero16
  have HK := Lib.hid hk
  have b0 := alloc2_bel w (.cells (cellsB k).toArray 23) (.cells (cellsB zeroK).toArray 23)
  have B1 := Lib.hid (blk_b1 w (.cells (cellsB k).toArray 23) (cellsB zeroK).toArray 23)
  have HLT : Hid (∀ W, Calls Try.prog 66 #[.agg (cellsB k).toArray] W fun e w' => (∃ A c, e = .returned (.slice A 17 c) ∧ OB W.heap.size w' A c (leafT k)) ∧ Below W.heap.size W w') := fun W => leafText_any k W hk
  have HLL : Hid ((leafT k).length = 17) := by unfold Hid leafT; simp [hk]
  have HD : Hid (∀ W A c, BR W A c (leafT k) → Calls Try.prog 122 #[.slice A 17 c] W fun e w' => e = .returned (.agg (cellsB (digS (leafT k))).toArray) ∧ Below W.heap.size W w') := fun W A c h => digest_any (leafT k) A c W HLL.out h (by omega)
  have HDL : Hid ((digS (leafT k)).length = 16) := digS_length _
  generalize digS (leafT k) = d at HD HDL
  generalize leafT k = t at HLT HD HLL
  have hdc : (cellsB d).length = 16 := by rw [cellsB_length, HDL.out]
  have hall := all16 d
  clear hk
  go_enter Try.func123, Try.ntmps123
  go_wp2_with (first
    | (rw [HZ.out]; refine wpList_load_row rfl 23 (.tmp 1) rfl w.heap.size rfl 23 (cellsB k).toArray (0, 0) _ (blk_b0 w _ _ _) under_key rfl (cellsB_size _ HK.out) ?_)
    | (go_at_call 66; refine (HLT.out _).mono ?_; rintro e w1 ⟨⟨A1, c1, rfl, ho1⟩, hb1⟩; have HO1 := Lib.hid (ho1.br (by rw [HLL.out]; omega)); have b1 := bel_on b0 hb1; clear ho1)
    | (go_at_call 122; refine (HD.out _ _ _ HO1.out).mono ?_; rintro e w2 ⟨rfl, hb2⟩; have b2 := bel_on b1 hb2; have Q2 := (B1.out.below' hb1).below' hb2; have hr2 : (rowAt w2 (w.heap.size + 1)).size = 16 := (by rw [Q2.row]; rfl); have hf2 := Q2.free; have HQ2 := Lib.hid Q2; clear Q2))
  exact bodyPost_ret (results_cell_row rfl _ _ (w.heap.size + 1) _ _ (0, 0) _ rfl (HQ2.out.setRow (cellsB d).toArray) under_key rfl (cellsB_size _ HDL.out)) rfl ⟨rfl, below_setRow b2 (by omega) _⟩
end Go.Proofs.Ytinpiodfpnbllaa

/- The program's text of a node, and its digest. -/
namespace Go.Proofs.Ytinpiodfpnbllaa
open Go.RowKit
set_option linter.unusedVariables false
attribute [local go_sem] run_storeCells_key run_storeCells_new

theorem Blk.brn {w : World} {g : Nat} {t : TypeId} {l : List UInt8} (h : Blk w g t (cellsB l).toArray) {n : Nat} (hn : l.length = n) (hs : n ≤ 1000000) : BR w (some ⟨g, 0, none⟩) n l := by
  subst hn
  refine ⟨⟨by rw [cellsB_length, Nat.mul_one], Nat.le_refl _, by omega, by omega⟩, fun _ => ⟨g, 0, rfl, h.lt, fun j v hv => ?_⟩⟩
  rw [Nat.zero_add, h.cell j]
  simpa using hv

set_option maxHeartbeats 1000000 in
set_option maxRecDepth 100000 in
theorem nodeText_any (a b : List UInt8) (w : World) (ha : a.length = 16) (hb : b.length = 16) : Calls Try.prog 68 #[.agg (cellsB a).toArray, .agg (cellsB b).toArray] w fun e w' => (∃ A c, e = .returned (.slice A 33 c) ∧ OB w.heap.size w' A c (nodeX a b)) ∧ Below w.heap.size w w' := by
  have HA := Lib.hid ha
  have HB := Lib.hid hb
  have b0 := alloc2_bel w (.cells (cellsB a).toArray 23) (.cells (cellsB b).toArray 23)
  have B0 := Lib.hid (blk_b0 w (cellsB a).toArray 23 (.cells (cellsB b).toArray 23))
  have B1 := Lib.hid (blk_b1 w (.cells (cellsB a).toArray 23) (cellsB b).toArray 23)
  clear ha hb
  go_enter Try.func68, Try.ntmps68
  go_wp2_with fail
  obtain ⟨W0, hW0⟩ : ∃ W : World, W = (w.alloc (.cells (cellsB a).toArray 23)).alloc (.cells (cellsB b).toArray 23) := ⟨_, rfl⟩
  rw [← hW0] at b0 B0 B1 ⊢
  clear hW0
  refine wp_region_noPanic ?_
  refine wp_region_held_drew (S := fun _ => True) (by kernel_rfl) trivial (fun hS => ?_)
  refine hd_take 1 (.slice (some ⟨w.heap.size, 0, none⟩) 16 16) rfl rfl (by kernel_rfl) (by kernel_rfl) (by kernel_rfl) (fun _ _ _ h => h) (fun w _ => by go_simp) hS ?_
  refine hd_take 2 (.slice (some ⟨w.heap.size + 1, 0, none⟩) 16 16) rfl rfl (by kernel_rfl) (by kernel_rfl) (by kernel_rfl) (fun _ _ _ h => h) (fun w _ => by go_simp) hS ?_
  obtain ⟨g, hg⟩ : ∃ g, W0.drew.heap.size = g := ⟨_, rfl⟩
  have N1 : Blk (W0.drew.alloc (.cells (cellsB [1]).toArray 5)) g 5 (cellsB [1]).toArray := by rw [← hg]; exact Blk.new _ _ _
  have b1 := b0.drew.alloc b0.drew.size (.cells (cellsB [1]).toArray 5)
  have C0 := B0.out.drew.alloc (.cells (cellsB [1]).toArray 5)
  have C1 := B1.out.drew.alloc (.cells (cellsB [1]).toArray 5)
  refine hd_sole 0 (by kernel_rfl) (op_run (.slice (some ⟨g, 0, none⟩) 1 1) (W0.drew.alloc (.cells (cellsB [1]).toArray 5)) rfl rfl (by rw [← hg]; go_simp; try rfl) ⟨trivial, ?_⟩)
  generalize W0.drew.alloc (.cells (cellsB [1]).toArray 5) = W1 at N1 b1 C0 C1 ⊢
  simp only [List.getElem_toArray, List.getElem_cons_succ, List.getElem_cons_zero, Act.put, List.setIfInBounds_toArray, List.set_cons_zero, List.set_cons_succ]
  obtain ⟨g2, hg2⟩ : ∃ g2, W1.heap.size = g2 := ⟨_, rfl⟩
  obtain ⟨rs, hrs⟩ : ∃ rs : List BRow, rs = [⟨some ⟨g, 0, none⟩, 1, [1]⟩, ⟨some ⟨w.heap.size, 0, none⟩, 16, a⟩, ⟨some ⟨w.heap.size + 1, 0, none⟩, 16, b⟩] := ⟨_, rfl⟩
  have hcells : (rs.map BRow.v).toArray = #[.slice (some ⟨g, 0, none⟩) 1 1, .slice (some ⟨w.heap.size, 0, none⟩) 16 16, .slice (some ⟨w.heap.size + 1, 0, none⟩) 16 16] := by rw [hrs]; simp [BRow.v, HA.out, HB.out]
  have hrl : rs.length = 3 := by rw [hrs]; rfl
  have hcat : catL rs 3 = nodeX a b := by rw [hrs]; simp [catL, nodeX]
  have hnl : (nodeX a b).length = 33 := by simp [nodeX, HA.out, HB.out]
  have b2 := b1.alloc b1.size (.cells (rs.map BRow.v).toArray 24)
  have hRR : RR (W1.alloc (.cells (rs.map BRow.v).toArray 24)) (some ⟨g2, 0, none⟩) 3 rs := by
    refine ⟨⟨⟨by rw [List.length_map, Nat.mul_one], by omega, by omega, by omega⟩, fun _ => ⟨g2, 0, rfl, by rw [← hg2]; simp, fun j v hv => ?_⟩⟩, fun r hr => ?_⟩
    · rw [Nat.zero_add, ← hg2, (Blk.new W1 24 (rs.map BRow.v).toArray).cell j]
      simpa using hv
    · rw [hrs] at hr
      simp only [List.mem_cons, List.not_mem_nil, or_false] at hr
      rcases hr with rfl | rfl | rfl
      · exact (N1.alloc _).brn (n := 1) rfl (by omega)
      · exact (C0.alloc _).brn (n := 16) HA.out (by omega)
      · exact (C1.alloc _).brn (n := 16) HB.out (by omega)
  refine hd_sole 3 (by kernel_rfl) (op_run (.slice (some ⟨g2, 0, none⟩) 3 3) (W1.alloc (.cells (rs.map BRow.v).toArray 24)) rfl rfl (by rw [← hg2, hcells]; go_simp) ⟨trivial, ?_⟩)
  generalize W1.alloc (.cells (rs.map BRow.v).toArray 24) = W2 at b2 hRR ⊢
  simp only [List.getElem_toArray, List.getElem_cons_succ, List.getElem_cons_zero, Act.put, List.setIfInBounds_toArray, List.set_cons_zero, List.set_cons_succ]
  refine hd_calls 4 129 #[.slice (some ⟨g2, 0, none⟩) 3 3] rfl rfl (by kernel_rfl) (by go_simp) ((Concat_any (some ⟨g2, 0, none⟩) 3 rs W2 hrl hRR (N := 33) (by rw [hcat, hnl]) (by omega) (by omega)).mono ?_)
  rintro e w5 ⟨⟨A5, c5, rfl, ho5⟩, hb5⟩
  rw [hcat] at ho5
  refine ⟨_, rfl, trivial, ?_⟩
  refine hd_take 5 (.slice A5 33 c5) rfl rfl (by kernel_rfl) (by kernel_rfl) (by kernel_rfl) (fun _ _ _ h => h) (fun w _ => by go_simp) trivial ?_
  refine wpAnyH_done (by kernel_rfl) (NoPanic.normal ?_) _
  simp only [List.getElem_toArray, List.getElem_cons_succ, List.getElem_cons_zero, Act.put, List.setIfInBounds_toArray, List.set_cons_zero, List.set_cons_succ]
  have HO5 := Lib.hid (OB.le_ (B' := w.heap.size) ho5 b2.size)
  have bF := bel_on b2 hb5
  clear ho5
  go_wp2_with fail
  go_ret
  exact ⟨⟨A5, c5, rfl, HO5.out⟩, bF⟩
end Go.Proofs.Ytinpiodfpnbllaa

/- The program's digest of a node; where it parts a list. -/
namespace Go.Proofs.Ytinpiodfpnbllaa
open Go.RowKit
set_option linter.unusedVariables false
attribute [local go_sem] run_storeCells_key run_storeCells_new

set_option maxHeartbeats 1000000 in
set_option maxRecDepth 100000 in
theorem nodeHash_any (a b : List UInt8) (w : World) (ha : a.length = 16) (hb : b.length = 16) :
    Calls Try.prog 124 #[.agg (cellsB a).toArray, .agg (cellsB b).toArray] w fun e w' => e = .returned (.agg (cellsB (digS (nodeT a b))).toArray) ∧ Below w.heap.size w w' := by
  have HZ := Lib.hid zero16
  have HA := Lib.hid ha
  have HB := Lib.hid hb
  have b0 := alloc3_bel w (.cells (cellsB a).toArray 23) (.cells (cellsB b).toArray 23) (.cells (cellsB zeroK).toArray 23)
  have B2 := Lib.hid (blk_a2 w (.cells (cellsB a).toArray 23) (.cells (cellsB b).toArray 23) (cellsB zeroK).toArray 23)
  have HNT : Hid (∀ W, Calls Try.prog 68 #[.agg (cellsB a).toArray, .agg (cellsB b).toArray] W fun e w' => (∃ A c, e = .returned (.slice A 33 c) ∧ OB W.heap.size w' A c (nodeT a b)) ∧ Below W.heap.size W w') := fun W => nodeText_any a b W ha hb
  have HNL : Hid ((nodeT a b).length = 33) := by unfold Hid nodeT; simp [ha, hb]
  have HD : Hid (∀ W A c, BR W A c (nodeT a b) → Calls Try.prog 122 #[.slice A 33 c] W fun e w' => e = .returned (.agg (cellsB (digS (nodeT a b))).toArray) ∧ Below W.heap.size W w') := fun W A c h => digest_any (nodeT a b) A c W HNL.out h (by omega)
  have HDL : Hid ((digS (nodeT a b)).length = 16) := digS_length _
  generalize digS (nodeT a b) = d at HD HDL
  generalize nodeT a b = t at HNT HD HNL
  have hdc : (cellsB d).length = 16 := by rw [cellsB_length, HDL.out]
  have hall := all16 d
  clear ha hb
  go_enter Try.func124, Try.ntmps124
  go_wp2_with (first
    | (rw [HZ.out]; refine wpList_load_row rfl 23 (.tmp 2) rfl w.heap.size rfl 23 (cellsB a).toArray (0, 0) _ (blk_a0 w _ _ _ _) under_key rfl (cellsB_size _ HA.out) ?_)
    | (refine wpList_load_row rfl 23 (.tmp 3) rfl (w.heap.size + 1) rfl 23 (cellsB b).toArray (0, 0) _ (blk_a1 w _ _ _ _) under_key rfl (cellsB_size _ HB.out) ?_)
    | (go_at_call 68; refine (HNT.out _).mono ?_; rintro e w1 ⟨⟨A1, c1, rfl, ho1⟩, hb1⟩; have HO1 := Lib.hid (ho1.br (by rw [HNL.out]; omega)); have b1 := bel_on b0 hb1; clear ho1)
    | (go_at_call 122; refine (HD.out _ _ _ HO1.out).mono ?_; rintro e w2 ⟨rfl, hb2⟩; have b2 := bel_on b1 hb2; have Q2 := (B2.out.below' hb1).below' hb2; have hr2 : (rowAt w2 (w.heap.size + 1 + 1)).size = 16 := (by rw [Q2.row]; rfl); have hf2 := Q2.free; have HQ2 := Lib.hid Q2; clear Q2))
  exact bodyPost_ret (results_cell_row rfl _ _ (w.heap.size + 1 + 1) _ _ (0, 0) _ rfl (HQ2.out.setRow (cellsB d).toArray) under_key rfl (cellsB_size _ HDL.out)) rfl ⟨rfl, below_setRow b2 (by omega) _⟩

theorem bitLen_split {n : Nat} (h2 : 2 ≤ n) (hn : n ≤ 1000) : ∃ e, Lib.bitLen (n - 1) = e + 1 ∧ splitS n = 2 ^ e ∧ e ≤ 9 := by
  obtain ⟨h1, h3, h4⟩ := Lib.bitLenAux_bounds 64 (n - 1) (by omega) (by omega)
  have hb : Lib.bitLen (n - 1) = Lib.bitLenAux 64 (n - 1) := rfl
  rw [hb]
  generalize Lib.bitLenAux 64 (n - 1) = L at h1 h3 h4 ⊢
  obtain ⟨e, rfl⟩ : ∃ e, L = e + 1 := ⟨L - 1, by omega⟩
  rw [Nat.add_sub_cancel] at h3
  rw [Nat.pow_succ] at h4
  refine ⟨e, rfl, splitS_of (by omega) (by omega), ?_⟩
  rcases Nat.lt_or_ge e 10 with h | h
  · omega
  · have := Nat.pow_le_pow_right (show 1 ≤ 2 by omega) h
    omega
set_option maxHeartbeats 1000000 in
theorem split_any (n : Nat) (w : World) (h2 : 2 ≤ n) (hn : n ≤ 1000) : Calls Try.prog 72 #[.int .i64 (n : Int)] w fun e w' => e = .returned (.int .i64 ((splitS n : Nat) : Int)) ∧ w = w' := by
  obtain ⟨e, he, hs, he9⟩ := bitLen_split h2 hn
  have hni : (n : Int) ≤ 1000 := by omega
  have h2i : (2 : Int) ≤ (n : Int) := by omega
  have HLEN : Hid (∀ W, Calls Try.prog 132 #[.int .u64 ((n : Int) - 1)] W fun e' w' => e' = .returned (.int .i64 ((e + 1 : Nat) : Int)) ∧ w' = W) := fun W => by
    have h := Try.bits_Len ((n : Int) - 1) W (by omega) (by omega)
    rw [show ((n : Int) - 1).toNat = n - 1 from by omega, he] at h
    exact h
  rw [hs]
  clear hs he
  have hcase : e = 0 ∨ e = 1 ∨ e = 2 ∨ e = 3 ∨ e = 4 ∨ e = 5 ∨ e = 6 ∨ e = 7 ∨ e = 8 ∨ e = 9 := by omega
  clear he9
  rcases hcase with rfl | rfl | rfl | rfl | rfl | rfl | rfl | rfl | rfl | rfl
  all_goals
    go_enter Try.func72, Try.ntmps72
    go_wp2_with (go_at_call 132; refine (HLEN.out _).mono ?_; rintro e1 w1 ⟨rfl, rfl⟩)
    go_ret
    exact ⟨rfl, rfl⟩
end Go.Proofs.Ytinpiodfpnbllaa

/- The reference's Pad. -/
namespace Go.Proofs.Ytinpiodfpnbllaa
open Go.RowKit
set_option linter.unusedVariables false

def lenW : Value → Nat
  | .slice _ n _ => n
  | _ => 0
set_option maxHeartbeats 1000000 in
set_option maxRecDepth 100000 in
theorem refPad_any (n : Nat) (w : World) (hn : n ≤ 1000000) : Calls Try.prog 149 #[.int .i64 (n : Int)] w fun e w' => (∃ A c, e = .returned (.slice A (9 + padZ n) c) ∧ OB w.heap.size w' A c (padTail n)) ∧ Below w.heap.size w w' := by
  have hn1 : (n : Int) ≤ 1000000 := by omega
  have hz : padZ n ≤ 15 := by unfold padZ; omega
  have hzm : (n + 9 + padZ n) % 16 = 0 := by unfold padZ; omega
  have hzn : ∀ j, j < padZ n → (n + 9 + j) % 16 ≠ 0 := by unfold padZ; omega
  have HB : Hid (∀ W, Calls Try.prog 138 #[.int .u64 (n : Int), .int .i64 8] W fun e w' => ∃ A c, e = .returned (.slice A 8 c) ∧ OB W.heap.size w' A c (by8 (UInt64.ofNat n)) ∧ Below W.heap.size W w') := fun W => by
    have h := refBytes_any (UInt64.ofNat n) 8 W (by omega)
    rw [UInt64.toNat_ofNat', Nat.mod_eq_of_lt (by omega), bysN_8] at h
    exact h
  have HT : Hid (padTail n = padJ (padZ n) ++ by8 (UInt64.ofNat n)) := rfl
  generalize by8 (UInt64.ofNat n) = t8 at HB HT
  obtain ⟨zz, hzz⟩ : ∃ zz, padZ n = zz := ⟨_, rfl⟩
  rw [hzz] at hz hzm hzn HT ⊢
  have HT8 : Hid (t8.length = 8) := by
    have h := congrArg List.length HT.out
    rw [padTail_length, hzz, List.length_append, padJ_length] at h
    unfold Hid; omega
  generalize padTail n = pt at HT
  clear hzz
  go_enter Try.func149, Try.ntmps149
  go_wp2_with fail
  go_loopw [3] (fun vo wr => ∃ (j : Nat) (A' : Option Addr) (c' : Nat), j ≤ zz ∧ vo = .slice A' (j + 1) c' ∧ Hid (OB w.heap.size wr A' c' (padJ j)) ∧ Below w.heap.size w wr) (fun vo _ => zz + 1 - lenW vo)
  case atStart => exact ⟨0, some ⟨w.heap.size, 0, none⟩, 1, by omega, rfl, OB.lit _ w [128] (Nat.le_refl _) (by simp) rfl, alloc_bel _ _⟩
  case round =>
    obtain ⟨j, A', c', hj, rfl, HO, hbel⟩ := hrel
    by_cases hlt : j < zz
    · have hne := hzn j hlt
      have hmod : ((n : Int) + ((j : Int) + 1) + 8) % 16 ≠ 0 := by omega
      have HJL : Hid ((padJ j).length = j + 1) := padJ_length j
      have HJS := Lib.hid (padJ_succ j)
      clear hne
      go_wp2_with (at_builtin; refine wpList_append_bytes _ rfl (.tmp 12) (.tmp 13) rfl w.heap.size A' (j + 1) c' _ HJL.out rfl (HO.out.below (alloc_bel _ _)) (some ⟨_, 0, none⟩) 1 1 [0] rfl rfl (src_lit [0] rfl) (by omega) (by have := hbel.size; simp; omega) ?_; intro A5 c5 w5 hon5 hbl5 hg5; have HON5 := Lib.hid hon5; have b5 := (hbel.alloc hbel.size _).trans hbl5; clear hon5 hg5 hbl5)
      exact ⟨⟨j + 1, A5, c5, by omega, rfl, by rw [HJS.out]; exact HON5.out, b5⟩, by simp only [lenW]; omega⟩
    · obtain rfl : j = zz := by omega
      have hmod : ((n : Int) + ((j : Int) + 1) + 8) % 16 = 0 := by omega
      have HJL : Hid ((padJ j).length = j + 1) := padJ_length j
      go_wp2_with (first
        | (go_at_call 138; refine (HB.out _).mono ?_; rintro e w2 ⟨A2, c2, rfl, ho2, hb2⟩; have HO2 := Lib.hid ho2; clear ho2)
        | (at_builtin; refine wpList_append_bytes _ rfl (.tmp 15) (.tmp 18) rfl w.heap.size A' (j + 1) c' _ HJL.out rfl (HO.out.below hb2) A2 8 c2 t8 HT8.out rfl ((HO2.out.br (by rw [HT8.out]; omega)).src HT8.out) (by omega) (Nat.le_trans hbel.size hb2.size) ?_; intro A5 c5 w5 hon5 hbl5 hg5; have HON5 := Lib.hid hon5; have b5 := (hbel.trans (hb2.mono hbel.size)).trans hbl5; clear hon5 hg5 hbl5))
      go_ret
      exact ⟨⟨A5, c5, by show _ = Ending.returned (.slice A5 (9 + j) c5); rw [show 9 + j = j + 1 + 8 from by omega]; rfl, by rw [HT.out]; exact HON5.out⟩, b5⟩
end Go.Proofs.Ytinpiodfpnbllaa

/- The reference's Digest. -/
namespace Go.Proofs.Ytinpiodfpnbllaa
open Go.RowKit
set_option linter.unusedVariables false
attribute [local go_sem] run_storeCells_key

theorem OB.lowR {B : Nat} {w : World} {A : Option Addr} {c : Nat} {l : List UInt8} (h : OB B w A c l) {g : Nat} (hg : g < B) (cs : Array Value) : OB B (w.setRow g cs) A c l :=
  ⟨h.1, h.2.elim Or.inl (fun ⟨g', cap, cur, hv, hB, hh, r⟩ => Or.inr ⟨g', cap, cur, hv, hB, by rw [← hh]; exact setRow_other w g g' cs (by omega), r⟩)⟩
theorem saltJ_zero : saltJ 0 = zeroK := rfl
theorem saltJ_full : saltJ 16 = salt := rfl

set_option maxHeartbeats 2000000 in
set_option maxRecDepth 100000 in
theorem refDigest_any (b : List UInt8) (A : Option Addr) (c : Nat) (w : World) {L : Nat} (hL : b.length = L) (h : BR w A c b) (hl : L ≤ 16384) :
    Calls Try.prog 125 #[.slice A L c] w fun e w' => e = .returned (.agg (cellsB (digS b)).toArray) ∧ Below w.heap.size w w' := by
  have hl1 : (L : Int) ≤ 16384 := by omega
  have HL := Lib.hid hL
  have H := Lib.hid h
  have HZ := Lib.hid zero16
  have b0 := alloc2_bel w (.cells (cellsB zeroK).toArray 23) (.cells (cellsB zeroK).toArray 23)
  have B0 := Lib.hid (blk_b0 w (cellsB zeroK).toArray 23 (.cells (cellsB zeroK).toArray 23))
  have B1 := Lib.hid (blk_b1 w (.cells (cellsB zeroK).toArray 23) (cellsB zeroK).toArray 23)
  have HPAD : Hid (∀ W, Calls Try.prog 149 #[.int .i64 (L : Int)] W fun e w' => (∃ A c, e = .returned (.slice A (9 + padZ L) c) ∧ OB W.heap.size w' A c (padTail L)) ∧ Below W.heap.size W w') := fun W => refPad_any L W (by omega)
  have HTL : Hid ((padTail L).length = 9 + padZ L) := padTail_length L
  have HPB : Hid (padB b = b ++ padTail L) := padB_tail b hL
  have hz : padZ L ≤ 15 := by unfold padZ; omega
  obtain ⟨N, hN⟩ : ∃ N, L + (9 + padZ L) = N := ⟨_, rfl⟩
  have hN16 : N % 16 = 0 := by rw [← hN]; unfold padZ; omega
  have hNL : (padB b).length = N := by rw [padB_length, hL]; omega
  have HNL := Lib.hid hNL
  have HDG : Hid (digS b = dgN (padB b) (N / 16)) := by unfold Hid digS; rw [hNL]
  have hNb : N ≤ 20000 := by omega
  obtain ⟨z9, hz9⟩ : ∃ z9, 9 + padZ L = z9 := ⟨_, rfl⟩
  rw [hz9] at HPAD HTL hN
  generalize padTail L = pt at HPAD HTL HPB
  clear hL h hl hz hz9 hNL
  go_enter Try.func125, Try.ntmps125
  go_wp2_with fail
  rw [HZ.out]
  go_loopw [4] (fun vi wr => ∃ i : Nat, i ≤ 16 ∧ vi = .int .i64 (i : Int) ∧ Hid (Blk wr w.heap.size 23 (cellsB zeroK).toArray) ∧ Hid (Blk wr (w.heap.size + 1) 23 (cellsB (saltJ i)).toArray) ∧ Below w.heap.size w wr) (fun vi _ => 16 - (intOf vi).toNat)
  case atStart => exact ⟨0, by omega, rfl, B0.out, B1.out, b0⟩
  case round =>
    obtain ⟨i, hi, rfl, HB0, HB1, hbel⟩ := hrel
    by_cases hlt : i < 16
    · have hii : (i : Int) < 16 := by omega
      have c0 := HB1.out.cell i
      rw [bytes_get _ i (by rw [saltJ_length hi]; exact hlt)] at c0
      have f0 := HB1.out.frozen i
      have HSET := Lib.hid (saltJ_set hlt)
      clear hlt
      go_wp2_with fail
      refine ⟨⟨i + 1, by omega, by go_num, HB0.out.far (p := ⟨w.heap.size + 1, i, none⟩) (by simp) _, ?_, hbel.setCell (p := ⟨w.heap.size + 1, i, none⟩) (by simp) _⟩, by simp [intOf]; omega⟩
      have h := HB1.out.set_ i (.int .u8 ((90 : UInt8).toNat : Int))
      rw [bytes_set, HSET.out] at h
      exact h
    · obtain rfl : i = 16 := by omega
      rw [saltJ_full] at HB1
      have hs1 : w.heap.size + 1 < wr.heap.size := HB1.out.lt
      have HLIT := Lib.hid (OB.lit0 wr.heap.size wr (Nat.le_refl _))
      go_wp2_with (first
        | (at_builtin; refine wpList_append_bytes _ rfl (.tmp 13) (.tmp 14) rfl wr.heap.size (some ⟨wr.heap.size, 0, none⟩) 0 0 [] rfl rfl HLIT.out A L c b HL.out rfl ((H.out.below (hbel.alloc hbel.size _)).src HL.out) (by omega) (by simp) ?_; intro A1 c1 w1 hon1 hbl1 hg1; (try simp only [Nat.zero_add]); (try simp only [List.nil_append] at hon1); have HON1 := Lib.hid hon1; have bb1 := (alloc_bel wr (.cells #[] 5)).trans hbl1; clear hon1 hg1 hbl1)
        | (go_at_call 149; refine (HPAD.out _).mono ?_; rintro e w2 ⟨⟨A2, c2, rfl, ho2⟩, hb2⟩; have HO2 := Lib.hid ho2; have bb2 := bel_on bb1 hb2; clear ho2)
        | (at_builtin; refine wpList_append_bytes _ rfl (.tmp 16) (.tmp 19) rfl wr.heap.size A1 L c1 b HL.out rfl (HON1.out.below hb2) A2 z9 c2 pt HTL.out rfl ((HO2.out.br (by rw [HTL.out]; omega)).src HTL.out) (by omega) bb2.size ?_; intro A3 c3 w3 hon3 hbl3 hg3; rw [hN]; have HON3 : Hid (OB wr.heap.size w3 A3 c3 (padB b)) := (by unfold Hid; rw [HPB.out]; exact hon3); have bb3 := bb2.trans hbl3; clear hon3 hg3 hbl3))
      have HBR3 : Hid (BR w3 A3 c3 (padB b)) := HON3.out.br (by rw [HNL.out]; omega)
      have Q0 := Lib.hid (HB0.out.below' bb3)
      have Q1 := Lib.hid (HB1.out.below' bb3)
      have hb3 := bel_on hbel bb3
      clear HTL HPB HPAD
      generalize padB b = all at HON3 HNL HDG HBR3
      have hs3 : wr.heap.size ≤ w3.heap.size := bb3.size
      go_loopw [6] (fun vi wr2 => ∃ i : Nat, i ≤ N / 16 ∧ vi = .int .i64 (i : Int) ∧ Hid (Blk wr2 w.heap.size 23 (cellsB zeroK).toArray) ∧ Hid (Blk wr2 (w.heap.size + 1) 23 (cellsB (dgN all i)).toArray) ∧ Hid (OB (w.heap.size + 1 + 1) wr2 A3 c3 all) ∧ Below w.heap.size w wr2) (fun vi _ => N / 16 - (intOf vi).toNat)
      case atStart => exact ⟨0, by omega, rfl, Q0.out, Q1.out, HON3.out.le_ (by omega), hb3⟩
      case round =>
        obtain ⟨i, hi, rfl, HP0, HP1, HO, hbel2⟩ := hrel
        by_cases hlt : i < N / 16
        · have hii : (i : Int) < ((N / 16 : Nat) : Int) := by omega
          have hi16 : 16 * i ≤ N := by omega
          have HFL : Hid ((dgN all i).length = 16) := dgN_length all i
          have HSUC : Hid (dgN all (i + 1) = xorS (encS (padK (all.drop (16 * i))) (dgN all i)) (dgN all i)) := dgN_succ all i
          have HPO : Hid (∀ W, Below wr.heap.size wr W → Calls Try.prog 113 #[.slice A3 N c3, .int .i64 (i : Int)] W fun e w' => e = .returned (.agg (cellsB (padK (all.drop (16 * i)))).toArray) ∧ Below W.heap.size W w') := fun W hW => portion_any A3 c3 all i W HNL.out ((HO.out.br (by rw [HNL.out]; omega)).below hW) hi16
          have HPL : Hid ((padK (all.drop (16 * i))).length = 16) := padK_length _
          generalize padK (all.drop (16 * i)) = p at HSUC HPO HPL
          generalize dgN all i = f at HSUC HP1 HFL
          have HEN : Hid (∀ W, Calls Try.prog 56 #[.agg (cellsB p).toArray, .agg (cellsB f).toArray] W fun e w' => e = .returned (.agg (cellsB (encS p f)).toArray) ∧ Below W.heap.size W w') := fun W => refEncrypt_any p f W HPL.out HFL.out
          have HXO : Hid (∀ W, Calls Try.prog 112 #[.agg (cellsB (encS p f)).toArray, .agg (cellsB f).toArray] W fun e w' => e = .returned (.agg (cellsB (xorS (encS p f) f)).toArray) ∧ Below W.heap.size W w') := fun W => refXor_any _ _ W rfl HFL.out
          have HRL : Hid ((xorS (encS p f) f).length = 16) := xorS_length _ _
          generalize xorS (encS p f) f = r at HSUC HXO HRL
          generalize encS p f = t at HEN HXO
          go_wp2_with (go_at_call 111; refine (portions_any A3 c3 N _ (by omega)).mono ?_; rintro e1 w1 ⟨rfl, rfl⟩)
          refine wp_region_last 7 (C := fun w' => ∃ x : Wd wr, w' = x.w) (by kernel_rfl) rfl (by kernel_rfl) (by kernel_rfl) (by kernel_rfl) ⟨⟨wr.drew, (Below.refl _ _).drew⟩, rfl⟩ ?_
          simp only [List.take_succ_cons, List.take_zero]
          repeat (first
            | (go_big_quiet_want; refine quiet_load_as (w.heap.size + 1) rfl 23 (cellsB f).toArray (0, 0) _ (fun _ hw => by obtain ⟨z, rfl⟩ := hw; exact HP1.out.below' z.h) under_key rfl (cellsB_size _ HFL.out) ?_; go_big_quiet_op; go_big_quiet_on)
            | go_big_quiet_step (first
              | (go_at_call 113; exact Wd.call _ (HPO.out _ (Wd.h _)))
              | (go_at_call 56; exact Wd.call _ (HEN.out _))
              | (go_at_call 112; exact Wd.call _ (HXO.out _))))
          refine wpQuiet_nil ?_
          intro _ hw'
          obtain ⟨xx, hw''⟩ := hw'
          subst hw''
          refine wpOp_store (w.heap.size + 1) (cellsB r).toArray _ _ _ rfl rfl rfl rfl rfl (HP1.out.below' xx.h) (cellsB_size _ HRL.out) (by rw [List.size_toArray, List.size_toArray, cellsB_length, cellsB_length, HFL.out, HRL.out]) (all_oneCell_toArray (cells_one r)) ?_
          have hbx := bel_on hbel2 xx.h
          have U0 := Lib.hid ((setRow_other xx.w (w.heap.size + 1) w.heap.size (cellsB r).toArray (by omega)).trans (HP0.out.below' xx.h))
          have U1 := Lib.hid ((HP1.out.below' xx.h).setRow (cellsB r).toArray)
          have UO := Lib.hid ((HO.out.below xx.h).lowR (g := w.heap.size + 1) (by omega) (cellsB r).toArray)
          have ub := below_setRow hbx (g := w.heap.size + 1) (by omega) (cellsB r).toArray
          generalize xx.w.setRow (w.heap.size + 1) (cellsB r).toArray = w9 at U0 U1 UO ub ⊢
          go_wp2_with fail
          exact ⟨⟨i + 1, by omega, by go_num, U0.out, by rw [HSUC.out]; exact U1.out, UO.out, ub⟩, by simp [intOf]; omega⟩
        · obtain rfl : i = N / 16 := by omega
          have hii : ((N / 16 : Nat) : Int) ≤ ((N / 16 : Nat) : Int) := Int.le_refl _
          have HFL : Hid ((dgN all (N / 16)).length = 16) := dgN_length all _
          generalize dgN all (N / 16) = f at HDG HP1 HFL
          have hfl : (cellsB f).length = 16 := by rw [cellsB_length, HFL.out]
          have hall := all16 f
          have hr3 : (rowAt wr w.heap.size).size = 16 := by rw [HP0.out.row]; rfl
          have hf3 := HP0.out.free
          go_wp2_with (first
            | (go_at_call 111; refine (portions_any A3 c3 N _ (by omega)).mono ?_; rintro e1 w1 ⟨rfl, rfl⟩)
            | (refine wpList_load_row rfl 23 (.tmp 3) rfl (w.heap.size + 1) rfl 23 (cellsB f).toArray (0, 0) _ HP1.out under_key rfl (cellsB_size _ HFL.out) ?_))
          exact bodyPost_ret (results_cell_row rfl _ _ w.heap.size _ _ (0, 0) _ rfl (HP0.out.setRow (cellsB f).toArray) under_key rfl (cellsB_size _ HFL.out)) rfl ⟨by rw [HDG.out], below_setRow hbel2 (by omega) _⟩
end Go.Proofs.Ytinpiodfpnbllaa
