/-
  Lemmas and contracts, joined.
-/
import Derived.Test.YtchnaimpmegbkaaGreatDoorTqTopStatedW3
set_option linter.unusedSimpArgs false
set_option linter.unusedVariables false
set_option linter.unnecessarySimpa false
/- The law TopStated: both ways joined. -/
namespace Go.Proofs.YtchnaimpmegbkaaGreatDoor
open Go.RowKit
set_option linter.unusedVariables false

theorem topStated_letters (s : StV) (A : Option Addr) (c : Nat) (rs : List BRow) (K : List UInt8) (u : Int) (O : List UInt8) (Hh : Option Addr) (ch : Nat) (half : List UInt8) (V : List UInt8) (Y : Option Addr) (d : Nat) (y : List UInt8) (need : Int) (w : World) {n k ny : Nat} (hn : rs.length = n) (hk : half.length = k) (hny : y.length = ny)
    (h0 : StOK w s) (hR0 : RR w A c rs) (hK : K.length = 16) (hu1 : -9223372036854775808 ≤ u) (hu2 : u ≤ 9223372036854775807) (hO : O.length = 16) (hh0 : BR w Hh ch half) (hV : V.length = 16) (hy0 : BR w Y d y) (hT : TestsIn w) :
    Calls Tryz.prog 3 #[.agg s.cs.toArray, .slice A n c, .agg (cellsB K).toArray, .int .i64 u, .agg (cellsB O).toArray, .slice Hh k ch, .agg (cellsB V).toArray, .slice Y ny d, .int .i64 need] w fun e w' => e = .returned (.bool true) ∧ Below w.heap.size w w' := by
  by_cases hg : sizedB s (rs.map BRow.l) = true ∧ 0 ≤ u ∧ u < (n : Int) ∧ k = (hd (rs.map BRow.l)).length ∧ wordB half k = true ∧ copyB y k = true ∧ 1 ≤ need ∧ need ≤ (ny : Int)
  · obtain ⟨hz, u0, u1, hkd, g4, g5, g6, g7⟩ := hg
    obtain ⟨j, rfl⟩ : ∃ j : Nat, u = (j : Int) := ⟨u.toNat, by omega⟩
    obtain ⟨hok, hus, hm1, hm2, hall⟩ := sizedB_iff.1 hz
    have hyk : ny = k := by rw [← hny]; exact copyB_len g5
    subst hyk
    rw [← hkd] at hall hm1 hm2
    rw [List.length_map, hn] at hus
    have hj : j < n := by omega
    exact stated_good s A c rs K O Hh ch half V Y d y need w hn hk hny h0 hR0 hK hO hh0 hV hy0 hT hok hus hall hm1 hm2 hz g4 g5 g6 g7 hj
  · exact stated_bad s A c rs K u O Hh ch half V Y d y need w hn hk hny h0 hR0 hK hu1 hu2 hO hh0 hV hy0 hT hg
theorem topStated_walk (s : StV) (A : Option Addr) (c : Nat) (rs : List BRow) (K : List UInt8) (u : Int) (O : List UInt8) (Hh : Option Addr) (ch : Nat) (half : List UInt8) (V : List UInt8) (Y : Option Addr) (d : Nat) (y : List UInt8) (need : Int) (w : World)
    (h0 : StOK w s) (hR0 : RR w A c rs) (hcap : c * 24 ≤ 140737488351232) (hK : K.length = 16) (hu1 : -9223372036854775808 ≤ u) (hu2 : u ≤ 9223372036854775807) (hO : O.length = 16) (hh0 : BR w Hh ch half) (hV : V.length = 16) (hy0 : BR w Y d y) (hd1 : -9223372036854775808 ≤ need) (hd2 : need ≤ 9223372036854775807) (hT : TestsIn w) :
    Calls Tryz.prog 3 #[.agg s.cs.toArray, .slice A rs.length c, .agg (cellsB K).toArray, .int .i64 u, .agg (cellsB O).toArray, .slice Hh half.length ch, .agg (cellsB V).toArray, .slice Y y.length d, .int .i64 need] w fun e w' => e = .returned (.bool true) ∧ Below w.heap.size w w' :=
  topStated_letters s A c rs K u O Hh ch half V Y d y need w rfl rfl rfl h0 hR0 hK hu1 hu2 hO hh0 hV hy0 hT
end Go.Proofs.YtchnaimpmegbkaaGreatDoor
