/-
  Lemmas and contracts, joined.
-/
import Derived.SizedLaws
import Derived.Deep.Slices
import Derived.Lib.SmallJoins
import Derived.Deep.Strs
import Derived.Test.YtchnaimpmegbkaaGreatDoorTqTopStatedW3
import Derived.Test.YtchnaimpmegbkaaGreatDoorTqTw1
import Derived.Test.YtchnaimpmegbkaaGreatDoorTqTh1
set_option linter.unusedSimpArgs false
set_option linter.unusedVariables false
set_option linter.unnecessarySimpa false
/- The law TopStated: both ways joined. -/
namespace Go.Proofs.YtchnaimpmegbkaaGreatDoor
open Go.RowKit
set_option linter.unusedVariables false

theorem topStated_letters (s : StV) (A : Option Addr) (c : Nat) (rs : List BRow) (K : List UInt8) (u : Int) (O : List UInt8) (Hh : Option Addr) (ch : Nat) (half : List UInt8) (V : List UInt8) (Y : Option Addr) (d : Nat) (y : List UInt8) (need : Int) (w : World) {n k ny : Nat} (hn : rs.length = n) (hk : half.length = k) (hny : y.length = ny)
    (h0 : StOK w s) (hR0 : RR w A c rs) (hK : K.length = 16) (hu1 : -9223372036854775808 ≤ u) (hu2 : u ≤ 9223372036854775807) (hO : O.length = 16) (hh0 : BR w Hh ch half) (hV : V.length = 16) (hy0 : BR w Y d y) (hT : TestsIn w) :
    Calls Tryz.prog 3 #[.agg s.cs.toArray, .slice A n c, .agg (cellsB K).toArray, .int .i64 u, .agg (cellsB O).toArray, .slice Hh k ch, .agg (cellsB V).toArray, .slice Y ny d, .int .i64 need] w fun e w' => e = .returned (.bool true) ∧ Below w.heap.size w w' := by
  by_cases hg : sizedB s (rs.map BRow.l) = true ∧ 0 ≤ u ∧ u < (n : Int) ∧ k = (hd (rs.map BRow.l)).length ∧ wordB half k = true ∧ copyB y k = true ∧ 1 ≤ need ∧ need ≤ (ny : Int)
  · obtain ⟨hz, u0, u1, hkd, g4, g5, g6, g7⟩ := hg
    obtain ⟨j, rfl⟩ : ∃ j : Nat, u = (j : Int) := ⟨u.toNat, by omega⟩
    obtain ⟨hok, hus, hm1, hm2, hall⟩ := sizedB_iff.1 hz
    have hyk : ny = k := by rw [← hny]; exact copyB_len g5
    subst hyk
    rw [← hkd] at hall hm1 hm2
    rw [List.length_map, hn] at hus
    have hj : j < n := by omega
    exact stated_good s A c rs K O Hh ch half V Y d y need w hn hk hny h0 hR0 hK hO hh0 hV hy0 hT hok hus hall hm1 hm2 hz g4 g5 g6 g7 hj
  · exact stated_bad s A c rs K u O Hh ch half V Y d y need w hn hk hny h0 hR0 hK hu1 hu2 hO hh0 hV hy0 hT hg
theorem topStated_walk (s : StV) (A : Option Addr) (c : Nat) (rs : List BRow) (K : List UInt8) (u : Int) (O : List UInt8) (Hh : Option Addr) (ch : Nat) (half : List UInt8) (V : List UInt8) (Y : Option Addr) (d : Nat) (y : List UInt8) (need : Int) (w : World)
    (h0 : StOK w s) (hR0 : RR w A c rs) (hcap : c * 24 ≤ 140737488351232) (hK : K.length = 16) (hu1 : -9223372036854775808 ≤ u) (hu2 : u ≤ 9223372036854775807) (hO : O.length = 16) (hh0 : BR w Hh ch half) (hV : V.length = 16) (hy0 : BR w Y d y) (hd1 : -9223372036854775808 ≤ need) (hd2 : need ≤ 9223372036854775807) (hT : TestsIn w) :
    Calls Tryz.prog 3 #[.agg s.cs.toArray, .slice A rs.length c, .agg (cellsB K).toArray, .int .i64 u, .agg (cellsB O).toArray, .slice Hh half.length ch, .agg (cellsB V).toArray, .slice Y y.length d, .int .i64 need] w fun e w' => e = .returned (.bool true) ∧ Below w.heap.size w w' :=
  topStated_letters s A c rs K u O Hh ch half V Y d y need w rfl rfl rfl h0 hR0 hK hu1 hu2 hO hh0 hV hy0 hT
end Go.Proofs.YtchnaimpmegbkaaGreatDoor

/- Rows of bytes among a law's arguments. -/
namespace Go.Proofs.YtchnaimpmegbkaaGreatDoor
open Go.ChangeShapes Go.WideShapes Go.ChangeAt Go.RowKit Go.Deep
set_option linter.unusedVariables false

theorem rows_of_trod {H : Type} {enc : TypeId × Value → H} {W : World} {fuel : Nat} {cs : List Value} {x : DataW H × List MemPlace} (h : DataW.trod enc Tryz.prog W 0 (fun _ => true) true fuel 30 cs = some x) (hw : ∀ n ∈ x.1.weights Tryz.prog 30, n ≤ reachBytes) : ∃ A c rs, cs = [.slice A (List.length rs) c] ∧ RR W A c rs ∧ c * 24 ≤ 140737488351232 := by
  obtain ⟨A, len, cap, m, C, D, rfl, hle, hcap, hby, hcell, hel⟩ := slice_of_trod Tryz.underlying30 (by kernel_rfl : Tryz.prog.cellsOf 31 = 1) (by omega) (by kernel_rfl : Tryz.prog.bytesOf 31 = 24) h hw
  obtain ⟨U, hU⟩ := choose_lt (α := BRow) (p := fun i u => C i = [u.v] ∧ BR W u.A u.c u.l) (fun i hi => by obtain ⟨A, c, l, e, hb⟩ := bytes_of_trod Tryz.underlying31 (hel i hi).2.1 (hel i hi).2.2; exact ⟨⟨A, c, l⟩, e, hb⟩)
  have hrd := rd_of_cells (by_ := 24) hle hcap (by omega) (fun i hi => (hel i hi).1) hcell
  have hfl : (List.range len).flatMap C = ((List.range len).map U).map BRow.v := by
    rw [List.flatMap_def, List.map_congr_left (g := fun i => [(U i).v]) (fun i hi => (hU i (List.mem_range.1 hi)).1), ← List.flatMap_def, List.map_map]
    generalize List.range len = l; induction l with | nil => rfl | cons a l ih => simp [ih]
  rw [hfl] at hrd
  refine ⟨A, cap, (List.range len).map U, by simp, ⟨by simpa using hrd, fun r hr => ?_⟩, hby⟩
  obtain ⟨i, hi, rfl⟩ := List.mem_map.1 hr
  exact (hU i (List.mem_range.1 hi)).2

set_option maxRecDepth 100000 in
theorem open_rows {H : Type} {enc : TypeId × Value → H} {W : World} {b0 : Nat} {v : Value} {d : DataW H} {ps : List MemPlace} (hval : Value.okWide Tryz.prog W .any b0 30 v) (hd : DataW.Trod enc Tryz.prog W 0 (fun _ => true) true 30 v d ps)
    (hw : ∀ n ∈ d.weights Tryz.prog 30, n ≤ reachBytes) : ∃ A c z, v = .slice A (List.length z) c ∧ RR W A c z ∧ c * 24 ≤ 140737488351232 := by
  obtain ⟨fuel, hf⟩ := hd
  obtain ⟨A, c, z, e, h, h2⟩ := rows_of_trod hf hw
  exact ⟨A, c, z, slice_val Tryz.underlying30 hval e, h, h2⟩
end Go.Proofs.YtchnaimpmegbkaaGreatDoor

/- What the frames of the laws share: a recording, a key among the arguments, opened. -/
namespace Go.Proofs.YtchnaimpmegbkaaGreatDoor
open Go.ChangeShapes Go.WideShapes Go.ChangeAt Go.RowKit Go.Deep
set_option linter.unusedVariables false

theorem okWide_array {P : Program} {w : World} {r : Reach} {base : Nat} {t e : TypeId} {v : Value} {n : Nat} (ht : P.underlying t = some (.array n e)) (h : Value.okWide P w r base t v) : ∃ cs, v = .agg cs ∧ cs.size = P.cellsOf t := by
  simp only [Value.okWide, ht] at h
  obtain ⟨cs, h1, h2, _⟩ := h
  exact ⟨cs, h1, h2⟩
set_option maxRecDepth 100000 in
theorem open_key {H : Type} {enc : TypeId × Value → H} {W : World} {b0 : Nat} {v : Value} {d : DataW H} {ps : List MemPlace} (hval : Value.okWide Tryz.prog W .any b0 23 v) (hd : DataW.Trod enc Tryz.prog W 0 (fun _ => true) true 23 v d ps) :
    ∃ k : List UInt8, v = .agg (cellsB k).toArray ∧ k.length = 16 := by
  obtain ⟨cs, rfl, hsz⟩ := okWide_array Tryz.underlying23 hval
  obtain ⟨fuel, hf⟩ := hd
  obtain ⟨k, hk, e⟩ := key_of_trod hf
  refine ⟨k, ?_, hk⟩
  rw [← e]
  simp [Value.cells]

end Go.Proofs.YtchnaimpmegbkaaGreatDoor
