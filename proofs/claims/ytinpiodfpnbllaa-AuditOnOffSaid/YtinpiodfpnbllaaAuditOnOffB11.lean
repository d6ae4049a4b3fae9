/-
  Lemmas and contracts, joined: part 11.
-/
import Derived.Deep.QuietTactic
import Derived.BigQuiet
import Derived.Test.YtinpiodfpnbllaaAuditOnOffB10
set_option linter.unusedSimpArgs false
set_option linter.unusedVariables false
set_option linter.unnecessarySimpa false
/- The proof that a receiver is not on a list: the program's. -/
namespace Go.Proofs.Ytinpiodfpnbllaa
open Go.RowKit
set_option linter.unusedVariables false
set_option linter.unusedSimpArgs false

/-- What is returned: a proof of absence, an error. -/
structure OffV where
  lo : Ent
  hi : Ent
  a : Int
  b : Int
  P : List (List UInt8)
  a2 : Int
  b2 : Int
  P2 : List (List UInt8)
  e : Int
/-- The cells of a proof of absence. -/
def abC (v : OffV) (A : Option Addr) (n c : Nat) (A2 : Option Addr) (n2 c2 : Nat) : List Value := [.int .i64 v.lo.1, .int .i64 v.lo.2, .int .i64 v.hi.1, .int .i64 v.hi.2, .int .i64 v.a, .int .i64 v.b, .slice A n c, .int .i64 v.a2, .int .i64 v.b2, .slice A2 n2 c2]
def OffEnd (B : Nat) (v : OffV) (e : Ending) (w' : World) : Prop := ∃ A c A2 c2, e = .returned (.tuple #[.agg (abC v A v.P.length c A2 v.P2.length c2).toArray, .int .i64 v.e]) ∧ OK16 B w' A c v.P ∧ OK16 B w' A2 c2 v.P2
def offZ (e : Int) : OffV := ⟨(0, 0), (0, 0), 0, 0, [], 0, 0, [], e⟩
def offS (es : List Ent) (u : Int) : OffV := if validL es = false then offZ 90 else if u < 0 ∨ 64 ≤ u then offZ 2 else if hitE (endedE es) u = true then offZ 6 else ⟨(endedE es).getD (lowE (endedE es) u - 1) (0, 0), (endedE es).getD (lowE (endedE es) u) (0, 0), ((es.length + 2 : Nat) : Int), ((lowE (endedE es) u - 1 : Nat) : Int), pathS (leavesE es) (lowE (endedE es) u - 1), ((es.length + 2 : Nat) : Int), (lowE (endedE es) u : Int), pathS (leavesE es) (lowE (endedE es) u), 0⟩

set_option maxHeartbeats 4000000 in
set_option maxRecDepth 100000 in
theorem proveOff_bad (es : List Ent) (u : Int) (A : Option Addr) (c : Nat) (w : World) {n : Nat} (hn : es.length = n) (h : ER w A c es) (hv : validL es = false) :
    Calls Try.prog 36 #[.slice A n c, .int .i64 u] w fun e w' => OffEnd w.heap.size (offS es u) e w' ∧ Below w.heap.size w w' := by
  have HS : Hid (offS es u = offZ 90) := by
    unfold Hid offS
    rw [if_pos hv]
  have b0 := alloc_bel w (.cells #[.int .i64 0, .int .i64 0, .int .i64 0, .int .i64 0, .int .i64 0, .int .i64 0, .slice none 0 0, .int .i64 0, .int .i64 0, .slice none 0 0] 81)
  have HF : Hid (∀ W, Below w.heap.size w W → Calls Try.prog 85 #[.slice A n c, .int .i64 u] W fun e w' => e = .returned (.tuple #[.slice none 0 0, .slice none 0 0, .int .i64 0, .bool false, .int .i64 90]) ∧ Below W.heap.size W w') := fun W hW => find_bad es u A c W hn (h.below hW) hv
  clear hn h
  go_enter Try.func36, Try.ntmps36
  go_wp2_with (go_at_call 85; refine (HF.out _ b0).mono ?_; rintro e w1 ⟨rfl, hb1⟩; have b1 := Lib.hid (bel_on b0 hb1); have hz := hb1.size; obtain ⟨hc, hf⟩ := bcell hb1; clear hb1)
  have hlt : w.heap.size < w1.heap.size := by simp at hz; omega
  have g0 : w.heap.size < (w.alloc (.cells #[.int .i64 0, .int .i64 0, .int .i64 0, .int .i64 0, .int .i64 0, .int .i64 0, .slice none 0 0, .int .i64 0, .int .i64 0, .slice none 0 0] 81)).heap.size := by simp
  have k0 := (hc _ 0 g0).trans ((Blk.new w _ _).cell 0)
  have k1 := (hc _ 1 g0).trans ((Blk.new w _ _).cell 1)
  have k2 := (hc _ 2 g0).trans ((Blk.new w _ _).cell 2)
  have k3 := (hc _ 3 g0).trans ((Blk.new w _ _).cell 3)
  have k4 := (hc _ 4 g0).trans ((Blk.new w _ _).cell 4)
  have k5 := (hc _ 5 g0).trans ((Blk.new w _ _).cell 5)
  have k6 := (hc _ 6 g0).trans ((Blk.new w _ _).cell 6)
  have k7 := (hc _ 7 g0).trans ((Blk.new w _ _).cell 7)
  have k8 := (hc _ 8 g0).trans ((Blk.new w _ _).cell 8)
  have k9 := (hc _ 9 g0).trans ((Blk.new w _ _).cell 9)
  clear hc hf g0
  refine bodyPost_ret (v := .tuple #[.agg #[.int .i64 0, .int .i64 0, .int .i64 0, .int .i64 0, .int .i64 0, .int .i64 0, .slice none 0 0, .int .i64 0, .int .i64 0, .slice none 0 0], .int .i64 90]) (by simp [results, Try.f36, go_sem, k0, k1, k2, k3, k4, k5, k6, k7, k8, k9, hlt]) rfl ⟨⟨none, 0, none, 0, by rw [HS.out]; rfl, by rw [HS.out]; exact OK16.nil _ _, by rw [HS.out]; exact OK16.nil _ _⟩, ?_⟩
  exact ((((((((((b1.out.setCell (by simp) _).setCell (by simp) _).setCell (by simp) _).setCell (by simp) _).setCell (by simp) _).setCell (by simp) _).setCell (by simp) _).setCell (by simp) _).setCell (by simp) _).setCell (by simp) _)

set_option maxHeartbeats 4000000 in
set_option maxRecDepth 100000 in
theorem proveOff_out (es : List Ent) (u : Int) (A : Option Addr) (c : Nat) (w : World) {n : Nat} (hn : es.length = n) (h : ER w A c es) (hv : validL es = true) (hu : u < 0 ∨ 64 ≤ u) :
    Calls Try.prog 36 #[.slice A n c, .int .i64 u] w fun e w' => OffEnd w.heap.size (offS es u) e w' ∧ Below w.heap.size w w' := by
  have HS : Hid (offS es u = offZ 2) := by
    unfold Hid offS
    rw [if_neg (by rw [hv]; simp), if_pos hu]
  have b0 := alloc_bel w (.cells #[.int .i64 0, .int .i64 0, .int .i64 0, .int .i64 0, .int .i64 0, .int .i64 0, .slice none 0 0, .int .i64 0, .int .i64 0, .slice none 0 0] 81)
  have HF : Hid (∀ W, Below w.heap.size w W → Calls Try.prog 85 #[.slice A n c, .int .i64 u] W fun e w' => e = .returned (.tuple #[.slice none 0 0, .slice none 0 0, .int .i64 0, .bool false, .int .i64 2]) ∧ Below W.heap.size W w') := fun W hW => find_out es u A c W hn (h.below hW) hv hu
  clear hn h
  go_enter Try.func36, Try.ntmps36
  go_wp2_with (go_at_call 85; refine (HF.out _ b0).mono ?_; rintro e w1 ⟨rfl, hb1⟩; have b1 := Lib.hid (bel_on b0 hb1); have hz := hb1.size; obtain ⟨hc, hf⟩ := bcell hb1; clear hb1)
  have hlt : w.heap.size < w1.heap.size := by simp at hz; omega
  have g0 : w.heap.size < (w.alloc (.cells #[.int .i64 0, .int .i64 0, .int .i64 0, .int .i64 0, .int .i64 0, .int .i64 0, .slice none 0 0, .int .i64 0, .int .i64 0, .slice none 0 0] 81)).heap.size := by simp
  have k0 := (hc _ 0 g0).trans ((Blk.new w _ _).cell 0)
  have k1 := (hc _ 1 g0).trans ((Blk.new w _ _).cell 1)
  have k2 := (hc _ 2 g0).trans ((Blk.new w _ _).cell 2)
  have k3 := (hc _ 3 g0).trans ((Blk.new w _ _).cell 3)
  have k4 := (hc _ 4 g0).trans ((Blk.new w _ _).cell 4)
  have k5 := (hc _ 5 g0).trans ((Blk.new w _ _).cell 5)
  have k6 := (hc _ 6 g0).trans ((Blk.new w _ _).cell 6)
  have k7 := (hc _ 7 g0).trans ((Blk.new w _ _).cell 7)
  have k8 := (hc _ 8 g0).trans ((Blk.new w _ _).cell 8)
  have k9 := (hc _ 9 g0).trans ((Blk.new w _ _).cell 9)
  clear hc hf g0
  refine bodyPost_ret (v := .tuple #[.agg #[.int .i64 0, .int .i64 0, .int .i64 0, .int .i64 0, .int .i64 0, .int .i64 0, .slice none 0 0, .int .i64 0, .int .i64 0, .slice none 0 0], .int .i64 2]) (by simp [results, Try.f36, go_sem, k0, k1, k2, k3, k4, k5, k6, k7, k8, k9, hlt]) rfl ⟨⟨none, 0, none, 0, by rw [HS.out]; rfl, by rw [HS.out]; exact OK16.nil _ _, by rw [HS.out]; exact OK16.nil _ _⟩, ?_⟩
  exact ((((((((((b1.out.setCell (by simp) _).setCell (by simp) _).setCell (by simp) _).setCell (by simp) _).setCell (by simp) _).setCell (by simp) _).setCell (by simp) _).setCell (by simp) _).setCell (by simp) _).setCell (by simp) _)

set_option maxHeartbeats 4000000 in
set_option maxRecDepth 100000 in
theorem proveOff_there (es : List Ent) (u : Int) (A : Option Addr) (c : Nat) (w : World) {n : Nat} (hn : es.length = n) (h : ER w A c es) (hv : validL es = true) (h2 : 0 ≤ u) (h3 : u < 64) (hh : hitE (endedE es) u = true) :
    Calls Try.prog 36 #[.slice A n c, .int .i64 u] w fun e w' => OffEnd w.heap.size (offS es u) e w' ∧ Below w.heap.size w w' := by
  have HS : Hid (offS es u = offZ 6) := by
    unfold Hid offS
    rw [if_neg (by rw [hv]; simp), if_neg (by omega), if_pos hh]
  have b0 := alloc_bel w (.cells #[.int .i64 0, .int .i64 0, .int .i64 0, .int .i64 0, .int .i64 0, .int .i64 0, .slice none 0 0, .int .i64 0, .int .i64 0, .slice none 0 0] 81)
  have HL : Hid ((endedE es).length = n + 2) := by unfold Hid; rw [endedE_length, hn]
  have HF : Hid (∀ W, Below w.heap.size w W → Calls Try.prog 85 #[.slice A n c, .int .i64 u] W fun e w' => (∃ X x Y y, e = .returned (.tuple #[.slice X (n + 2) x, .slice Y (n + 2) y, .int .i64 (lowE (endedE es) u : Int), .bool true, .int .i64 0]) ∧ OE W.heap.size w' X x (endedE es) ∧ OK16 W.heap.size w' Y y (leavesE es)) ∧ Below W.heap.size W w') := fun W hW => by
    have := find_any es u A c W hn (h.below hW) hv h2 h3
    rw [hh] at this
    exact this
  clear hn h
  go_enter Try.func36, Try.ntmps36
  go_wp2_with (go_at_call 85; refine (HF.out _ b0).mono ?_; rintro e w1 ⟨⟨X, x, Y, y, rfl, -, -⟩, hb1⟩; have b1 := Lib.hid (bel_on b0 hb1); have hz := hb1.size; obtain ⟨hc, hf⟩ := bcell hb1; clear hb1)
  have hlt : w.heap.size < w1.heap.size := by simp at hz; omega
  have g0 : w.heap.size < (w.alloc (.cells #[.int .i64 0, .int .i64 0, .int .i64 0, .int .i64 0, .int .i64 0, .int .i64 0, .slice none 0 0, .int .i64 0, .int .i64 0, .slice none 0 0] 81)).heap.size := by simp
  have k0 := (hc _ 0 g0).trans ((Blk.new w _ _).cell 0)
  have k1 := (hc _ 1 g0).trans ((Blk.new w _ _).cell 1)
  have k2 := (hc _ 2 g0).trans ((Blk.new w _ _).cell 2)
  have k3 := (hc _ 3 g0).trans ((Blk.new w _ _).cell 3)
  have k4 := (hc _ 4 g0).trans ((Blk.new w _ _).cell 4)
  have k5 := (hc _ 5 g0).trans ((Blk.new w _ _).cell 5)
  have k6 := (hc _ 6 g0).trans ((Blk.new w _ _).cell 6)
  have k7 := (hc _ 7 g0).trans ((Blk.new w _ _).cell 7)
  have k8 := (hc _ 8 g0).trans ((Blk.new w _ _).cell 8)
  have k9 := (hc _ 9 g0).trans ((Blk.new w _ _).cell 9)
  clear hc hf g0
  refine bodyPost_ret (v := .tuple #[.agg #[.int .i64 0, .int .i64 0, .int .i64 0, .int .i64 0, .int .i64 0, .int .i64 0, .slice none 0 0, .int .i64 0, .int .i64 0, .slice none 0 0], .int .i64 6]) (by simp [results, Try.f36, go_sem, k0, k1, k2, k3, k4, k5, k6, k7, k8, k9, hlt]) rfl ⟨⟨none, 0, none, 0, by rw [HS.out]; rfl, by rw [HS.out]; exact OK16.nil _ _, by rw [HS.out]; exact OK16.nil _ _⟩, ?_⟩
  exact ((((((((((b1.out.setCell (by simp) _).setCell (by simp) _).setCell (by simp) _).setCell (by simp) _).setCell (by simp) _).setCell (by simp) _).setCell (by simp) _).setCell (by simp) _).setCell (by simp) _).setCell (by simp) _)

set_option maxHeartbeats 4000000 in
set_option maxRecDepth 100000 in
theorem proveOff_miss (es : List Ent) (u : Int) (A : Option Addr) (c : Nat) (w : World) {n : Nat} (hn : es.length = n) (h : ER w A c es) (hv : validL es = true) (h2 : 0 ≤ u) (h3 : u < 64) (hh : hitE (endedE es) u = false) :
    Calls Try.prog 36 #[.slice A n c, .int .i64 u] w fun e w' => OffEnd w.heap.size (offS es u) e w' ∧ Below w.heap.size w w' := by
  have hs : n ≤ 64 := by rw [← hn]; exact validL_length hv
  have hnb : (n : Int) ≤ 64 := by omega
  have HL : Hid ((endedE es).length = n + 2) := by unfold Hid; rw [endedE_length, hn]
  have HLL : Hid ((leavesE es).length = n + 2) := by unfold Hid; rw [leavesE_length, hn]
  have HA : Hid (All16 (leavesE es)) := leavesE_16 es
  have hlo : lowE (endedE es) u < n + 2 := by rw [← hn]; exact lowE_lt es h3
  have hlp : 1 ≤ lowE (endedE es) u := lowE_pos es h2
  obtain ⟨m, hm⟩ : ∃ m, lowE (endedE es) u - 1 = m := ⟨_, rfl⟩
  have HS : Hid (offS es u = ⟨(endedE es).getD m (0, 0), (endedE es).getD (lowE (endedE es) u) (0, 0), ((n + 2 : Nat) : Int), (m : Int), pathS (leavesE es) m, ((n + 2 : Nat) : Int), (lowE (endedE es) u : Int), pathS (leavesE es) (lowE (endedE es) u), 0⟩) := by
    unfold Hid offS
    rw [if_neg (by rw [hv]; simp), if_neg (by omega), if_neg (by rw [hh]; simp), hn, hm]
  have b0 := alloc_bel w (.cells #[.int .i64 0, .int .i64 0, .int .i64 0, .int .i64 0, .int .i64 0, .int .i64 0, .slice none 0 0, .int .i64 0, .int .i64 0, .slice none 0 0] 81)
  have HL : Hid ((endedE es).length = n + 2) := by unfold Hid; rw [endedE_length, hn]
  have HF : Hid (∀ W, Below w.heap.size w W → Calls Try.prog 85 #[.slice A n c, .int .i64 u] W fun e w' => (∃ X x Y y, e = .returned (.tuple #[.slice X (n + 2) x, .slice Y (n + 2) y, .int .i64 (lowE (endedE es) u : Int), .bool false, .int .i64 0]) ∧ OE W.heap.size w' X x (endedE es) ∧ OK16 W.heap.size w' Y y (leavesE es)) ∧ Below W.heap.size W w') := fun W hW => by
    have := find_any es u A c W hn (h.below hW) hv h2 h3
    rw [hh] at this
    exact this
  have HP1 : Hid (∀ Y y W, KR W Y y (leavesE es) → Calls Try.prog 70 #[.slice Y (n + 2) y, .int .i64 (m : Int)] W fun e w' => (∃ A' c', e = .returned (.agg (prC (n + 2 : Nat) (m : Nat) A' (pathS (leavesE es) (m)).length c').toArray) ∧ OK16 W.heap.size w' A' c' (pathS (leavesE es) (m))) ∧ Below W.heap.size W w') := fun Y y W hW => proof_any (leavesE es) (m) Y y W HLL.out (by omega) (by omega) hW
  have HP2 : Hid (∀ Y y W, KR W Y y (leavesE es) → Calls Try.prog 70 #[.slice Y (n + 2) y, .int .i64 (lowE (endedE es) u : Int)] W fun e w' => (∃ A' c', e = .returned (.agg (prC (n + 2 : Nat) (lowE (endedE es) u : Nat) A' (pathS (leavesE es) (lowE (endedE es) u)).length c').toArray) ∧ OK16 W.heap.size w' A' c' (pathS (leavesE es) (lowE (endedE es) u))) ∧ Below W.heap.size W w') := fun Y y W hW => proof_any (leavesE es) (lowE (endedE es) u) Y y W HLL.out hlo (by omega) hW
  generalize pathS (leavesE es) (lowE (endedE es) u) = R at HP2 HS
  generalize pathS (leavesE es) m = P at HP1 HS
  generalize lowE (endedE es) u = lo at *
  generalize endedE es = ds at *
  generalize leavesE es = ls at *
  have hml : m < ds.length := by rw [HL.out]; omega
  have hll : lo < ds.length := by rw [HL.out]; exact hlo
  have HG1 : Hid (ds.getD m (0, 0) = ds[m]) := by unfold Hid; rw [List.getD_eq_getElem?_getD, List.getElem?_eq_getElem hml]; rfl
  have HG2 : Hid (ds.getD lo (0, 0) = ds[lo]) := by unfold Hid; rw [List.getD_eq_getElem?_getD, List.getElem?_eq_getElem hll]; rfl
  rw [HG1.out, HG2.out] at HS
  obtain ⟨m1, hm1⟩ : ∃ m1, P.length = m1 := ⟨_, rfl⟩
  obtain ⟨m2, hm2⟩ : ∃ m2, R.length = m2 := ⟨_, rfl⟩
  rw [hm1] at HP1
  rw [hm2] at HP2
  have HM1 := Lib.hid hm1
  have HM2 := Lib.hid hm2
  have hli : (lo : Int) < (n : Int) + 2 := by omega
  have hmi : (m : Int) < (n : Int) + 2 := by omega
  have e1 : IntKind.i64.wrap ((lo : Int) - 1) = (m : Int) := by rw [IntKind.wrap_i64]; omega
  clear hn h hv h2 h3 hm hm1 hm2 hh
  go_enter Try.func36, Try.ntmps36
  go_wp2_with (go_at_call 85; refine (HF.out _ b0).mono ?_; rintro e w1 ⟨⟨X, x, Y, y, rfl, ho1, hk1⟩, hb1⟩; have O1 := Lib.hid ho1; have K1 := Lib.hid hk1; have B1 := Lib.hid hb1; clear ho1 hk1 hb1)
  have b1 := bel_on b0 B1.out
  obtain ⟨W0, hW0⟩ : ∃ W : World, W = w.alloc (.cells #[.int .i64 0, .int .i64 0, .int .i64 0, .int .i64 0, .int .i64 0, .int .i64 0, .slice none 0 0, .int .i64 0, .int .i64 0, .slice none 0 0] 81) := ⟨_, rfl⟩
  have Q0 : Blk W0 w.heap.size 81 #[.int .i64 0, .int .i64 0, .int .i64 0, .int .i64 0, .int .i64 0, .int .i64 0, .slice none 0 0, .int .i64 0, .int .i64 0, .slice none 0 0] := by rw [hW0]; exact Blk.new _ _ _
  have hz0 : W0.heap.size = w.heap.size + 1 := by rw [hW0]; simp
  rw [← hW0] at b0 O1 K1 B1
  clear hW0
  have BD := Lib.hid (show Below W0.heap.size W0 w1.drew from B1.out.drew)
  have hb : ∃ b off, X = some ⟨b, off, none⟩ := by obtain ⟨b, off, e, _⟩ := (O1.out.er (by rw [HL.out]; omega)).at_ hll; exact ⟨b, off, e⟩
  obtain ⟨b, off, rfl⟩ := hb
  have HSX : Hid (∀ W, OE W0.heap.size W (some ⟨b, off, none⟩) x ds → (W.cell? ⟨b, off + m * 2, none⟩ = some (.int .i64 ds[m].1) ∧ W.cell? ⟨b, off + m * 2 + 1, none⟩ = some (.int .i64 ds[m].2)) ∧ (W.cell? ⟨b, off + lo * 2, none⟩ = some (.int .i64 ds[lo].1) ∧ W.cell? ⟨b, off + lo * 2 + 1, none⟩ = some (.int .i64 ds[lo].2))) := fun W hW => by
    obtain ⟨b', off', e, _, c0, c1⟩ := (hW.er (by rw [HL.out]; omega)).at_ hml
    obtain ⟨b2, off2, e2, _, c2, c3⟩ := (hW.er (by rw [HL.out]; omega)).at_ hll
    injection e with e
    injection e with e3 e4
    subst e3 e4
    injection e2 with e2
    injection e2 with e5 e6
    subst e5 e6
    exact ⟨⟨c0, c1⟩, c2, c3⟩
  obtain ⟨X0, hX0⟩ : ∃ X0, ds[m] = X0 := ⟨_, rfl⟩
  obtain ⟨X1, hX1⟩ : ∃ X1, ds[lo] = X1 := ⟨_, rfl⟩
  rw [hX0, hX1] at HSX HS
  obtain ⟨r0, q0⟩ := X0
  obtain ⟨r1, q1⟩ := X1
  simp only at HSX
  have O1d := Lib.hid (show OE W0.heap.size w1.drew (some ⟨b, off, none⟩) x ds from O1.out.below (Below.refl _ _).drew)
  have K1d := Lib.hid (show OK16 W0.heap.size w1.drew Y y ls from K1.out.below (Below.refl _ _).drew)
  clear hX0 hX1 hll hml HG1 HG2
  refine wp_region_noPanic ?_
  refine wp_region_held_drew (S := fun w' => (w'.cell? ⟨b, off + m * 2, none⟩ = some (.int .i64 r0) ∧ w'.cell? ⟨b, off + m * 2 + 1, none⟩ = some (.int .i64 q0)) ∧ (w'.cell? ⟨b, off + lo * 2, none⟩ = some (.int .i64 r1) ∧ w'.cell? ⟨b, off + lo * 2 + 1, none⟩ = some (.int .i64 q1))) (by kernel_rfl) (HSX.out _ O1d.out) (fun hS => ?_)
  refine hd_take 0 (_) rfl rfl (by kernel_rfl) (by kernel_rfl) (by kernel_rfl) (fun _ _ _ h => h) (fun w _ => by go_simp <;> rfl) hS ?_
  refine hd_take 1 (_) rfl rfl (by kernel_rfl) (by kernel_rfl) (by kernel_rfl) (fun _ _ _ h => h) (fun w _ => by go_simp <;> rfl) hS ?_
  refine hd_take 5 (_) rfl rfl (by kernel_rfl) (by kernel_rfl) (by kernel_rfl) (fun _ _ _ h => h) (fun w _ => by go_simp <;> rfl) hS ?_
  refine hd_take 6 (_) rfl rfl (by kernel_rfl) (by kernel_rfl) (by kernel_rfl) (fun _ _ _ h => h) (fun w _ => by go_simp <;> rfl) hS ?_
  refine hd_take 9 (_) rfl rfl (by kernel_rfl) (by kernel_rfl) (by kernel_rfl) (fun _ _ _ h => h) (fun w _ => by go_simp <;> rfl) hS ?_
  refine hd_take 10 (_) rfl rfl (by kernel_rfl) (by kernel_rfl) (by kernel_rfl) (fun _ _ _ h => h) (fun w _ => by go_simp <;> rfl) hS ?_
  refine hd_take 13 (_) rfl rfl (by kernel_rfl) (by kernel_rfl) (by kernel_rfl) (fun _ _ _ h => h) (fun w _ => by go_simp <;> rfl) hS ?_
  refine hd_take 14 (_) rfl rfl (by kernel_rfl) (by kernel_rfl) (by kernel_rfl) (fun _ _ _ h => h) (fun w _ => by go_simp <;> rfl) hS ?_
  simp only [List.getElem_toArray, List.getElem_cons_succ, List.getElem_cons_zero, Act.put, List.setIfInBounds_toArray, List.set_cons_zero, List.set_cons_succ]
  refine hd_take 2 (.int .i64 (m : Int)) rfl rfl (by kernel_rfl) (by kernel_rfl) (by kernel_rfl) (fun _ _ _ h => h) (fun w _ => by simp [go_sem, e1]) hS ?_
  refine hd_take 7 (_) rfl rfl (by kernel_rfl) (by kernel_rfl) (by kernel_rfl) (fun _ _ _ h => h) (fun w _ => by go_simp <;> rfl) hS ?_
  refine hd_take 11 (.int .i64 (m : Int)) rfl rfl (by kernel_rfl) (by kernel_rfl) (by kernel_rfl) (fun _ _ _ h => h) (fun w _ => by simp [go_sem, e1]) hS ?_
  simp only [List.getElem_toArray, List.getElem_cons_succ, List.getElem_cons_zero, Act.put, List.setIfInBounds_toArray, List.set_cons_zero, List.set_cons_succ]
  refine hd_take 3 (_) rfl rfl (by kernel_rfl) (by kernel_rfl) (by kernel_rfl) (fun _ _ _ h => h) (fun w _ => by go_simp <;> rfl) hS ?_
  refine hd_take 8 (.agg #[.int .i64 r1, .int .i64 q1]) rfl rfl (by kernel_rfl) (by kernel_rfl) (by kernel_rfl) (fun _ _ _ h => h) (fun w h => by have hx := h.2.1; have hy := h.2.2; simp [go_sem, hx, hy]) hS ?_
  simp only [List.getElem_toArray, List.getElem_cons_succ, List.getElem_cons_zero, Act.put, List.setIfInBounds_toArray, List.set_cons_zero, List.set_cons_succ]
  refine hd_take 4 (.agg #[.int .i64 r0, .int .i64 q0]) rfl rfl (by kernel_rfl) (by kernel_rfl) (by kernel_rfl) (fun _ _ _ h => h) (fun w h => by have hx := h.1.1; have hy := h.1.2; simp [go_sem, hx, hy]) hS ?_
  simp only [List.getElem_toArray, List.getElem_cons_succ, List.getElem_cons_zero, Act.put, List.setIfInBounds_toArray, List.set_cons_zero, List.set_cons_succ]
  refine hd_calls 12 70 #[.slice Y (n + 2) y, .int .i64 (m : Int)] rfl rfl (by kernel_rfl) (by go_simp <;> rfl) ?_
  refine (HP1.out _ _ _ (K1d.out.kr (fun k hk => HA.out k hk) (by rw [HLL.out]; omega))).mono ?_
  rintro e w2 ⟨⟨A2, c2, rfl, ho2⟩, hb2⟩
  have D2 := bel_on BD.out hb2
  have O2 := O1d.out.below hb2
  have K2 := K1d.out.below hb2
  have P2 : OK16 W0.heap.size w2 A2 c2 P := ho2.le_ BD.out.size
  refine ⟨_, rfl, HSX.out _ O2, ?_⟩
  simp only [List.getElem_toArray, List.getElem_cons_succ, List.getElem_cons_zero, Act.put, List.setIfInBounds_toArray, List.set_cons_zero, List.set_cons_succ]
  refine hd_calls 15 70 #[.slice Y (n + 2) y, .int .i64 (lo : Int)] rfl rfl (by kernel_rfl) (by go_simp <;> rfl) ?_
  refine (HP2.out _ _ _ (K2.kr (fun k hk => HA.out k hk) (by rw [HLL.out]; omega))).mono ?_
  rintro e w3 ⟨⟨A3, c3, rfl, ho3⟩, hb3⟩
  have D3 := bel_on D2 hb3
  have O3 := O2.below hb3
  have P3 := P2.below hb3
  have R3 : OK16 W0.heap.size w3 A3 c3 R := ho3.le_ D2.size
  refine ⟨_, rfl, HSX.out _ O3, ?_⟩
  simp only [List.getElem_toArray, List.getElem_cons_succ, List.getElem_cons_zero, Act.put, List.setIfInBounds_toArray, List.set_cons_zero, List.set_cons_succ]
  refine hd_take 16 (.agg #[.int .i64 r0, .int .i64 q0, .int .i64 r1, .int .i64 q1, .int .i64 ((n + 2 : Nat) : Int), .int .i64 (m : Int), .slice A2 m1 c2, .int .i64 ((n + 2 : Nat) : Int), .int .i64 (lo : Int), .slice A3 m2 c3]) rfl rfl (by kernel_rfl) (by kernel_rfl) (by kernel_rfl) (fun _ _ _ h => h) (fun w _ => by simp [go_sem, prC]) (HSX.out _ O3) ?_
  simp only [List.getElem_toArray, List.getElem_cons_succ, List.getElem_cons_zero, Act.put, List.setIfInBounds_toArray, List.set_cons_zero, List.set_cons_succ]
  have k0 := (Q0.below' D3).cell 0
  have f0 := (Q0.below' D3).frozen 0
  have k1 := (Q0.below' D3).cell 1
  have f1 := (Q0.below' D3).frozen 1
  have k2 := (Q0.below' D3).cell 2
  have f2 := (Q0.below' D3).frozen 2
  have k3 := (Q0.below' D3).cell 3
  have f3 := (Q0.below' D3).frozen 3
  have k4 := (Q0.below' D3).cell 4
  have f4 := (Q0.below' D3).frozen 4
  have k5 := (Q0.below' D3).cell 5
  have f5 := (Q0.below' D3).frozen 5
  have k6 := (Q0.below' D3).cell 6
  have f6 := (Q0.below' D3).frozen 6
  have k7 := (Q0.below' D3).cell 7
  have f7 := (Q0.below' D3).frozen 7
  have k8 := (Q0.below' D3).cell 8
  have f8 := (Q0.below' D3).frozen 8
  have k9 := (Q0.below' D3).cell 9
  have f9 := (Q0.below' D3).frozen 9
  have O4 := ((((((((((O3).set_low ⟨w.heap.size, 0, none⟩ (.int .i64 r0) (by simp; omega)).set_low ⟨w.heap.size, 1, none⟩ (.int .i64 q0) (by simp; omega)).set_low ⟨w.heap.size, 2, none⟩ (.int .i64 r1) (by simp; omega)).set_low ⟨w.heap.size, 3, none⟩ (.int .i64 q1) (by simp; omega)).set_low ⟨w.heap.size, 4, none⟩ (.int .i64 ((n + 2 : Nat) : Int)) (by simp; omega)).set_low ⟨w.heap.size, 5, none⟩ (.int .i64 (m : Int)) (by simp; omega)).set_low ⟨w.heap.size, 6, none⟩ (.slice A2 m1 c2) (by simp; omega)).set_low ⟨w.heap.size, 7, none⟩ (.int .i64 ((n + 2 : Nat) : Int)) (by simp; omega)).set_low ⟨w.heap.size, 8, none⟩ (.int .i64 (lo : Int)) (by simp; omega)).set_low ⟨w.heap.size, 9, none⟩ (.slice A3 m2 c3) (by simp; omega)
  have P4 := ((((((((((P3).set_low ⟨w.heap.size, 0, none⟩ (.int .i64 r0) (by simp; omega)).set_low ⟨w.heap.size, 1, none⟩ (.int .i64 q0) (by simp; omega)).set_low ⟨w.heap.size, 2, none⟩ (.int .i64 r1) (by simp; omega)).set_low ⟨w.heap.size, 3, none⟩ (.int .i64 q1) (by simp; omega)).set_low ⟨w.heap.size, 4, none⟩ (.int .i64 ((n + 2 : Nat) : Int)) (by simp; omega)).set_low ⟨w.heap.size, 5, none⟩ (.int .i64 (m : Int)) (by simp; omega)).set_low ⟨w.heap.size, 6, none⟩ (.slice A2 m1 c2) (by simp; omega)).set_low ⟨w.heap.size, 7, none⟩ (.int .i64 ((n + 2 : Nat) : Int)) (by simp; omega)).set_low ⟨w.heap.size, 8, none⟩ (.int .i64 (lo : Int)) (by simp; omega)).set_low ⟨w.heap.size, 9, none⟩ (.slice A3 m2 c3) (by simp; omega)
  have R4 := ((((((((((R3).set_low ⟨w.heap.size, 0, none⟩ (.int .i64 r0) (by simp; omega)).set_low ⟨w.heap.size, 1, none⟩ (.int .i64 q0) (by simp; omega)).set_low ⟨w.heap.size, 2, none⟩ (.int .i64 r1) (by simp; omega)).set_low ⟨w.heap.size, 3, none⟩ (.int .i64 q1) (by simp; omega)).set_low ⟨w.heap.size, 4, none⟩ (.int .i64 ((n + 2 : Nat) : Int)) (by simp; omega)).set_low ⟨w.heap.size, 5, none⟩ (.int .i64 (m : Int)) (by simp; omega)).set_low ⟨w.heap.size, 6, none⟩ (.slice A2 m1 c2) (by simp; omega)).set_low ⟨w.heap.size, 7, none⟩ (.int .i64 ((n + 2 : Nat) : Int)) (by simp; omega)).set_low ⟨w.heap.size, 8, none⟩ (.int .i64 (lo : Int)) (by simp; omega)).set_low ⟨w.heap.size, 9, none⟩ (.slice A3 m2 c3) (by simp; omega)
  refine hd_sole 17 (by kernel_rfl) (op_skip (((((((((((w3).setCell ⟨w.heap.size, 0, none⟩ (.int .i64 r0)).setCell ⟨w.heap.size, 1, none⟩ (.int .i64 q0)).setCell ⟨w.heap.size, 2, none⟩ (.int .i64 r1)).setCell ⟨w.heap.size, 3, none⟩ (.int .i64 q1)).setCell ⟨w.heap.size, 4, none⟩ (.int .i64 ((n + 2 : Nat) : Int))).setCell ⟨w.heap.size, 5, none⟩ (.int .i64 (m : Int))).setCell ⟨w.heap.size, 6, none⟩ (.slice A2 m1 c2)).setCell ⟨w.heap.size, 7, none⟩ (.int .i64 ((n + 2 : Nat) : Int))).setCell ⟨w.heap.size, 8, none⟩ (.int .i64 (lo : Int))).setCell ⟨w.heap.size, 9, none⟩ (.slice A3 m2 c3)) rfl rfl (by simp [go_sem, k0, k1, k2, k3, k4, k5, k6, k7, k8, k9, f0, f1, f2, f3, f4, f5, f6, f7, f8, f9]) ⟨HSX.out _ O4, ?_⟩)
  simp only [List.getElem_toArray, List.getElem_cons_succ, List.getElem_cons_zero, Act.put, List.setIfInBounds_toArray, List.set_cons_zero, List.set_cons_succ]
  refine hd_take 18 (_) rfl rfl (by kernel_rfl) (by kernel_rfl) (by kernel_rfl) (fun _ _ _ h => h) (fun w _ => by go_simp <;> rfl) (HSX.out _ O4) ?_
  simp only [List.getElem_toArray, List.getElem_cons_succ, List.getElem_cons_zero, Act.put, List.setIfInBounds_toArray, List.set_cons_zero, List.set_cons_succ]
  refine wpAnyH_done (by kernel_rfl) (NoPanic.normal ?_) _
  have BF := Lib.hid (((((((((((bel_on b0 D3).setCell (p := ⟨w.heap.size, 0, none⟩) (by simp) (.int .i64 r0)).setCell (p := ⟨w.heap.size, 1, none⟩) (by simp) (.int .i64 q0)).setCell (p := ⟨w.heap.size, 2, none⟩) (by simp) (.int .i64 r1)).setCell (p := ⟨w.heap.size, 3, none⟩) (by simp) (.int .i64 q1)).setCell (p := ⟨w.heap.size, 4, none⟩) (by simp) (.int .i64 ((n + 2 : Nat) : Int))).setCell (p := ⟨w.heap.size, 5, none⟩) (by simp) (.int .i64 (m : Int))).setCell (p := ⟨w.heap.size, 6, none⟩) (by simp) (.slice A2 m1 c2)).setCell (p := ⟨w.heap.size, 7, none⟩) (by simp) (.int .i64 ((n + 2 : Nat) : Int))).setCell (p := ⟨w.heap.size, 8, none⟩) (by simp) (.int .i64 (lo : Int))).setCell (p := ⟨w.heap.size, 9, none⟩) (by simp) (.slice A3 m2 c3))
  have PF := Lib.hid (P4.le_ (B' := w.heap.size) (by omega))
  have RF := Lib.hid (R4.le_ (B' := w.heap.size) (by omega))
  clear hS O2 O3 O4 P2 P3 P4 R3 R4 K2 ho2 hb2 ho3 hb3
  go_wp2_with fail
  refine bodyPost_ret (v := .tuple #[.agg #[.int .i64 r0, .int .i64 q0, .int .i64 r1, .int .i64 q1, .int .i64 ((n + 2 : Nat) : Int), .int .i64 (m : Int), .slice A2 m1 c2, .int .i64 ((n + 2 : Nat) : Int), .int .i64 (lo : Int), .slice A3 m2 c3], .int .i64 0]) (by simp [results, Try.f36, go_sem, k0, k1, k2, k3, k4, k5, k6, k7, k8, k9]) rfl ⟨⟨A2, c2, A3, c3, ?_, by rw [HS.out]; exact PF.out, by rw [HS.out]; exact RF.out⟩, BF.out⟩
  rw [HS.out]
  simp only [abC, HM1.out, HM2.out]

theorem ProveOff_any (es : List Ent) (u : Int) (A : Option Addr) (c : Nat) (w : World) {n : Nat} (hn : es.length = n) (h : ER w A c es) :
    Calls Try.prog 36 #[.slice A n c, .int .i64 u] w fun e w' => OffEnd w.heap.size (offS es u) e w' ∧ Below w.heap.size w w' := by
  cases hv : validL es with
  | false => exact proveOff_bad es u A c w hn h hv
  | true =>
    by_cases hu : u < 0 ∨ 64 ≤ u
    · exact proveOff_out es u A c w hn h hv hu
    · cases hh : hitE (endedE es) u with
      | false => exact proveOff_miss es u A c w hn h hv (by omega) (by omega) hh
      | true => exact proveOff_there es u A c w hn h hv (by omega) (by omega) hh
end Go.Proofs.Ytinpiodfpnbllaa

/- Two equal lists of keys are the same. -/
namespace Go.Proofs.Ytinpiodfpnbllaa
open Go.RowKit
set_option linter.unusedVariables false
attribute [local go_sem] equalIn_keys

set_option maxHeartbeats 1000000 in
set_option maxRecDepth 100000 in
theorem sameKeys_any (ks : List (List UInt8)) (A : Option Addr) (c : Nat) (B : Option Addr) (d : Nat) (w : World) {n : Nat} (hn : ks.length = n) (h : KR w A c ks) (h' : KR w B d ks) :
    Calls Try.prog 25 #[.slice A n c, .slice B n d] w fun e w' => e = .returned (.bool true) ∧ Below w.heap.size w w' := by
  have hnl : (n : Int) ≤ 140737488351232 := by have := h.len; omega
  have HN := Lib.hid hn
  have H := Lib.hid h
  have H' := Lib.hid h'
  clear hn h h'
  go_enter Try.func25, Try.ntmps25
  go_wp2_with fail
  go_loopw [5] (fun vi wr => ∃ i : Nat, i ≤ n ∧ vi = .int .i64 (i : Int) ∧ Below w.heap.size w wr) (fun vi _ => n - (intOf vi).toNat)
  case atStart => exact ⟨0, by omega, rfl, Below.refl _ _⟩
  case round =>
    obtain ⟨i, hi, rfl, hbel⟩ := hrel
    by_cases hlt : i < n
    · have hii : (i : Int) < n := by omega
      have hil : i < ks.length := by have := HN.out; omega
      obtain ⟨g1, o1, rfl, hg1, hr1⟩ := (H.out.below hbel).at_ hil
      obtain ⟨g2, o2, rfl, hg2, hr2⟩ := (H'.out.below hbel).at_ hil
      have hk : ks[i].length = 16 := H.out.2 _ (List.getElem_mem hil)
      have HR1 := Lib.hid (range_below hr1 (Below.refl _ _).drew)
      have HR2 := Lib.hid (range_below hr2 (Below.refl _ _).drew)
      obtain ⟨k, hkk⟩ : ∃ k, ks[i] = k := ⟨_, rfl⟩
      rw [hkk] at HR1 HR2 hk
      have HK := Lib.hid hk
      have hz : ∀ W, (Op.equalIn 10000 23 (.agg (cellsB k).toArray) (.agg (cellsB k).toArray)).run Try.prog W = .ok true W := fun W => by rw [equalIn_keys W k k HK.out HK.out]; simp
      clear hr1 hr2 hk hkk hil
      go_wp2_with fail
      refine wp_region_noPanic ?_
      refine wp_region_held_drew (S := fun w' => w'.rangeAt g1 (o1 + i * 16) (cellsB k) ∧ w'.rangeAt g2 (o2 + i * 16) (cellsB k)) (by kernel_rfl) ⟨HR1.out, HR2.out⟩ (fun hS => ?_)
      refine hd_take 0 (.slice (some ⟨g1, o1, none⟩) n c) rfl rfl (by kernel_rfl) (by kernel_rfl) (by kernel_rfl) (fun _ _ _ h => h) (fun w _ => by go_simp) hS ?_
      refine hd_take 1 (.int .i64 (i : Int)) rfl rfl (by kernel_rfl) (by kernel_rfl) (by kernel_rfl) (fun _ _ _ h => h) (fun w _ => by go_simp) hS ?_
      refine hd_take 4 (.slice (some ⟨g2, o2, none⟩) n d) rfl rfl (by kernel_rfl) (by kernel_rfl) (by kernel_rfl) (fun _ _ _ h => h) (fun w _ => by go_simp) hS ?_
      refine hd_take 5 (.int .i64 (i : Int)) rfl rfl (by kernel_rfl) (by kernel_rfl) (by kernel_rfl) (fun _ _ _ h => h) (fun w _ => by go_simp) hS ?_
      simp only [List.getElem_toArray, List.getElem_cons_succ, List.getElem_cons_zero, Act.put, List.setIfInBounds_toArray, List.set_cons_zero, List.set_cons_succ]
      refine hd_take 2 (.pointer (some ⟨g1, o1 + i * 16, none⟩)) rfl rfl (by kernel_rfl) (by kernel_rfl) (by kernel_rfl) (fun _ _ _ h => h) (fun w _ => by go_simp) hS ?_
      refine hd_take 6 (.pointer (some ⟨g2, o2 + i * 16, none⟩)) rfl rfl (by kernel_rfl) (by kernel_rfl) (by kernel_rfl) (fun _ _ _ h => h) (fun w _ => by go_simp) hS ?_
      simp only [List.getElem_toArray, List.getElem_cons_succ, List.getElem_cons_zero, Act.put, List.setIfInBounds_toArray, List.set_cons_zero, List.set_cons_succ]
      refine hd_load 3 g1 (o1 + i * 16) (cellsB k) _ _ rfl rfl rfl (by kernel_rfl) (by kernel_rfl) (by kernel_rfl) (fun _ _ _ h => h) rfl (fun w hw => hw.1) under_key rfl (key_info HK.out) hS ?_
      simp only [List.getElem_toArray, List.getElem_cons_succ, List.getElem_cons_zero, Act.put, List.setIfInBounds_toArray, List.set_cons_zero, List.set_cons_succ]
      refine hd_load 7 g2 (o2 + i * 16) (cellsB k) _ _ rfl rfl rfl (by kernel_rfl) (by kernel_rfl) (by kernel_rfl) (fun _ _ _ h => h) rfl (fun w hw => hw.2) under_key rfl (key_info HK.out) hS ?_
      simp only [List.getElem_toArray, List.getElem_cons_succ, List.getElem_cons_zero, Act.put, List.setIfInBounds_toArray, List.set_cons_zero, List.set_cons_succ]
      refine hd_take 8 (.bool false) rfl rfl (by kernel_rfl) (by kernel_rfl) (by kernel_rfl) (fun _ _ _ h => h) (fun w _ => by go_simp) hS ?_
      refine wpAnyH_done (by kernel_rfl) (NoPanic.normal ?_) _
      simp only [List.getElem_toArray, List.getElem_cons_succ, List.getElem_cons_zero, Act.put, List.setIfInBounds_toArray, List.set_cons_zero, List.set_cons_succ]
      go_wp2_with fail
      go_roundw
      case rel => exact ⟨i + 1, by omega, by go_num, hbel.drew⟩
      case measure => simp [intOf]; omega
    · obtain rfl : i = n := by omega
      have hii : (i : Int) ≤ i := Int.le_refl _
      go_wp2_with fail
      go_ret
      exact ⟨rfl, hbel⟩
end Go.Proofs.Ytinpiodfpnbllaa

/- Equal lists of texts, and equal proofs, are the same. -/
namespace Go.Proofs.Ytinpiodfpnbllaa
open Go.RowKit
set_option linter.unusedVariables false
set_option linter.unusedSimpArgs false

set_option maxHeartbeats 1000000 in
set_option maxRecDepth 100000 in
theorem sameTexts_any (ts : List (List UInt8)) (A : Option Addr) (c : Nat) (rs : List BRow) (B : Option Addr) (d : Nat) (ss : List BRow) (w : World) {n m : Nat} (hn : rs.length = n) (hm : ss.length = m) (h1 : rs.map BRow.l = ts) (h2 : ss.map BRow.l = ts) (h : RR w A c rs) (h' : RR w B d ss) :
    Calls Try.prog 19 #[.slice A n c, .slice B m d] w fun e w' => e = .returned (.bool true) ∧ Below w.heap.size w w' := by
  have hnl : (n : Int) ≤ 140737488351232 := by have := h.1.len; omega
  obtain rfl : m = n := by rw [← hm, ← hn, ← List.length_map (f := BRow.l), h2, ← h1, List.length_map]
  have HN := Lib.hid hn
  have HM := Lib.hid hm
  have H := Lib.hid h
  have H' := Lib.hid h'
  have H1 := Lib.hid h1
  have H2 := Lib.hid h2
  clear hn hm h h' h1 h2
  go_enter Try.func19, Try.ntmps19
  go_wp2_with fail
  go_loopw [5] (fun vi wr => ∃ i : Nat, i ≤ m ∧ vi = .int .i64 (i : Int) ∧ Below w.heap.size w wr) (fun vi _ => m - (intOf vi).toNat)
  case atStart => exact ⟨0, by omega, rfl, Below.refl _ _⟩
  case round =>
    obtain ⟨i, hi, rfl, hbel⟩ := hrel
    by_cases hlt : i < m
    · have hii : (i : Int) < m := by omega
      obtain ⟨b1, o1, r1, rfl, hb1, hr1, hc1, hl1⟩ := (H.out.on hbel).cellAt (i := i) (by have := HN.out; omega)
      obtain ⟨b2, o2, r2, rfl, hb2, hr2, hc2, hl2⟩ := (H'.out.on hbel).cellAt (i := i) (by have := HM.out; omega)
      have he : r1.l = r2.l := by
        have e1 : ts[i]? = some r1.l := by rw [← H1.out, List.getElem?_map, hr1]; rfl
        have e2 : ts[i]? = some r2.l := by rw [← H2.out, List.getElem?_map, hr2]; rfl
        rw [e1] at e2
        injection e2
      obtain ⟨A1, c1, l1⟩ := r1
      obtain ⟨A2, c2, l2⟩ := r2
      simp only at he hc1 hl1 hc2 hl2
      subst he
      obtain ⟨q, hq⟩ : ∃ q, l1.length = q := ⟨_, rfl⟩
      rw [hq] at hc1 hc2
      have HQ := Lib.hid hq
      have HC1 := Lib.hid hc1
      have HC2 := Lib.hid hc2
      have HL1 := Lib.hid hl1
      have HL2 := Lib.hid hl2
      generalize hstr : strB l1 = s1
      have HST := Lib.hid hstr
      clear hc1 hc2 hl1 hl2 hr1 hr2 hq hstr
      go_wp2_with fail
      refine wp_region_noPanic ?_
      refine wp_region_held_drew (S := fun w' => w'.cell? ⟨b1, o1 + i, none⟩ = some (.slice A1 q c1) ∧ w'.cell? ⟨b2, o2 + i, none⟩ = some (.slice A2 q c2) ∧ BR w' A1 c1 l1 ∧ BR w' A2 c2 l1) (by kernel_rfl) ⟨HC1.out, HC2.out, HL1.out.below (Below.refl _ _).drew, HL2.out.below (Below.refl _ _).drew⟩ (fun hS => ?_)
      refine hd_take 0 (_) rfl rfl (by kernel_rfl) (by kernel_rfl) (by kernel_rfl) (fun _ _ _ h => h) (fun w _ => by go_simp <;> rfl) hS ?_
      refine hd_take 1 (_) rfl rfl (by kernel_rfl) (by kernel_rfl) (by kernel_rfl) (fun _ _ _ h => h) (fun w _ => by go_simp <;> rfl) hS ?_
      refine hd_take 5 (_) rfl rfl (by kernel_rfl) (by kernel_rfl) (by kernel_rfl) (fun _ _ _ h => h) (fun w _ => by go_simp <;> rfl) hS ?_
      refine hd_take 6 (_) rfl rfl (by kernel_rfl) (by kernel_rfl) (by kernel_rfl) (fun _ _ _ h => h) (fun w _ => by go_simp <;> rfl) hS ?_
      simp only [List.getElem_toArray, List.getElem_cons_succ, List.getElem_cons_zero, Act.put, List.setIfInBounds_toArray, List.set_cons_zero, List.set_cons_succ]
      refine hd_take 2 (_) rfl rfl (by kernel_rfl) (by kernel_rfl) (by kernel_rfl) (fun _ _ _ h => h) (fun w _ => by go_simp <;> rfl) hS ?_
      refine hd_take 7 (_) rfl rfl (by kernel_rfl) (by kernel_rfl) (by kernel_rfl) (fun _ _ _ h => h) (fun w _ => by go_simp <;> rfl) hS ?_
      simp only [List.getElem_toArray, List.getElem_cons_succ, List.getElem_cons_zero, Act.put, List.setIfInBounds_toArray, List.set_cons_zero, List.set_cons_succ]
      refine hd_take 3 (.slice A1 q c1) rfl rfl (by kernel_rfl) (by kernel_rfl) (by kernel_rfl) (fun _ _ _ h => h) (fun w hw => by have hx := hw.1; simp [go_sem, hx]) hS ?_
      refine hd_take 8 (.slice A2 q c2) rfl rfl (by kernel_rfl) (by kernel_rfl) (by kernel_rfl) (fun _ _ _ h => h) (fun w hw => by have hx := hw.2.1; simp [go_sem, hx]) hS ?_
      simp only [List.getElem_toArray, List.getElem_cons_succ, List.getElem_cons_zero, Act.put, List.setIfInBounds_toArray, List.set_cons_zero, List.set_cons_succ]
      refine hd_take 4 (.string s1) rfl rfl (by kernel_rfl) (by kernel_rfl) (by kernel_rfl) (fun _ _ _ h => h) (fun w hw => by have hx := run_string_br hw.2.2.1 q HQ.out; rw [HST.out] at hx; simp [execOp, Act.eval, Act.put, Sem.run_bind, hx]) hS ?_
      refine hd_take 9 (.string s1) rfl rfl (by kernel_rfl) (by kernel_rfl) (by kernel_rfl) (fun _ _ _ h => h) (fun w hw => by have hx := run_string_br hw.2.2.2 q HQ.out; rw [HST.out] at hx; simp [execOp, Act.eval, Act.put, Sem.run_bind, hx]) hS ?_
      simp only [List.getElem_toArray, List.getElem_cons_succ, List.getElem_cons_zero, Act.put, List.setIfInBounds_toArray, List.set_cons_zero, List.set_cons_succ]
      refine hd_take 10 (.bool false) rfl rfl (by kernel_rfl) (by kernel_rfl) (by kernel_rfl) (fun _ _ _ h => h) (fun w _ => by go_simp) hS ?_
      refine wpAnyH_done (by kernel_rfl) (NoPanic.normal ?_) _
      simp only [List.getElem_toArray, List.getElem_cons_succ, List.getElem_cons_zero, Act.put, List.setIfInBounds_toArray, List.set_cons_zero, List.set_cons_succ]
      go_wp2_with fail
      go_roundw
      case rel => exact ⟨i + 1, by omega, by go_num, hbel.drew⟩
      case measure => simp [intOf]; omega
    · obtain rfl : i = m := by omega
      have hii : (i : Int) ≤ i := Int.le_refl _
      go_wp2_with fail
      go_ret
      exact ⟨rfl, hbel⟩

set_option maxHeartbeats 1000000 in
set_option maxRecDepth 100000 in
theorem sameProof_any (a b : Int) (P : List (List UInt8)) (A : Option Addr) (c : Nat) (B : Option Addr) (d : Nat) (w : World) {n : Nat} (hn : P.length = n) (h : KR w A c P) (h' : KR w B d P) :
    Calls Try.prog 22 #[.agg (prC a b A n c).toArray, .agg (prC a b B n d).toArray] w fun e w' => e = .returned (.bool true) ∧ Below w.heap.size w w' := by
  have b0 := alloc2_bel w (.cells #[.int .i64 a, .int .i64 b, .slice A n c] 52) (.cells #[.int .i64 a, .int .i64 b, .slice B n d] 52)
  have HS : Hid (Calls Try.prog 25 #[.slice A n c, .slice B n d] ((w.alloc (.cells #[.int .i64 a, .int .i64 b, .slice A n c] 52)).alloc (.cells #[.int .i64 a, .int .i64 b, .slice B n d] 52)) fun e w' => e = .returned (.bool true) ∧ Below (((w.alloc (.cells #[.int .i64 a, .int .i64 b, .slice A n c] 52)).alloc (.cells #[.int .i64 a, .int .i64 b, .slice B n d] 52))).heap.size ((w.alloc (.cells #[.int .i64 a, .int .i64 b, .slice A n c] 52)).alloc (.cells #[.int .i64 a, .int .i64 b, .slice B n d] 52)) w') := sameKeys_any P A c B d _ hn (h.below b0) (h'.below b0)
  clear hn h h'
  unfold prC
  go_enter Try.func22, Try.ntmps22
  go_wp2_with (go_at_call 25; refine HS.out.mono ?_; rintro e w1 ⟨rfl, hb1⟩; have b1 := bel_on b0 hb1)
  go_ret
  exact ⟨rfl, b1⟩
end Go.Proofs.Ytinpiodfpnbllaa

/- Two proofs of absence that say the same: the reference's comparison. -/
namespace Go.Proofs.Ytinpiodfpnbllaa
open Go.RowKit
set_option linter.unusedVariables false
set_option linter.unusedSimpArgs false

set_option maxHeartbeats 4000000 in
set_option maxRecDepth 100000 in
theorem sameAbs_any (v : OffV) (A A2 B B2 : Option Addr) (c c2 d d2 : Nat) (w : World) (h : KR w A c v.P) (h2 : KR w A2 c2 v.P2) (g : KR w B d v.P) (g2 : KR w B2 d2 v.P2) :
    Calls Try.prog 38 #[.agg (abC v A v.P.length c A2 v.P2.length c2).toArray, .agg (abC v B v.P.length d B2 v.P2.length d2).toArray] w fun e w' => e = .returned (.bool true) ∧ Below w.heap.size w w' := by
  obtain ⟨⟨r0, q0⟩, ⟨r1, q1⟩, a, b, P, a2, b2, R, e0⟩ := v
  obtain ⟨m1, hm1⟩ : ∃ m1, P.length = m1 := ⟨_, rfl⟩
  obtain ⟨m2, hm2⟩ : ∃ m2, R.length = m2 := ⟨_, rfl⟩
  simp only [abC, hm1, hm2] at h h2 g g2 ⊢
  have HP : Hid (∀ W, Below w.heap.size w W → Calls Try.prog 22 #[.agg #[.int .i64 a, .int .i64 b, .slice A m1 c], .agg #[.int .i64 a, .int .i64 b, .slice B m1 d]] W fun e w' => e = .returned (.bool true) ∧ Below W.heap.size W w') := fun W hW => sameProof_any a b P A c B d W hm1 (h.below hW) (g.below hW)
  have HR : Hid (∀ W, Below w.heap.size w W → Calls Try.prog 22 #[.agg #[.int .i64 a2, .int .i64 b2, .slice A2 m2 c2], .agg #[.int .i64 a2, .int .i64 b2, .slice B2 m2 d2]] W fun e w' => e = .returned (.bool true) ∧ Below W.heap.size W w') := fun W hW => sameProof_any a2 b2 R A2 c2 B2 d2 W hm2 (h2.below hW) (g2.below hW)
  obtain ⟨W0, hW⟩ : ∃ W, W = (w.alloc (.cells #[.int .i64 r0, .int .i64 q0, .int .i64 r1, .int .i64 q1, .int .i64 a, .int .i64 b, .slice A m1 c, .int .i64 a2, .int .i64 b2, .slice A2 m2 c2] 81)).alloc (.cells #[.int .i64 r0, .int .i64 q0, .int .i64 r1, .int .i64 q1, .int .i64 a, .int .i64 b, .slice B m1 d, .int .i64 a2, .int .i64 b2, .slice B2 m2 d2] 81) := ⟨_, rfl⟩
  have b0 : Below w.heap.size w W0 := by rw [hW]; exact alloc2_bel w _ _
  have D0 : Below W0.heap.size W0 W0 := Below.refl _ _
  have Q0 : Blk W0 w.heap.size 81 #[.int .i64 r0, .int .i64 q0, .int .i64 r1, .int .i64 q1, .int .i64 a, .int .i64 b, .slice A m1 c, .int .i64 a2, .int .i64 b2, .slice A2 m2 c2] := by rw [hW]; exact blk_b0 w _ _ _
  have Q1 : Blk W0 (w.heap.size + 1) 81 #[.int .i64 r0, .int .i64 q0, .int .i64 r1, .int .i64 q1, .int .i64 a, .int .i64 b, .slice B m1 d, .int .i64 a2, .int .i64 b2, .slice B2 m2 d2] := by rw [hW]; exact blk_b1 w _ _ _
  have BA : Hid (∀ W, Below W0.heap.size W0 W → W.rangeAt w.heap.size 0 [.int .i64 r0, .int .i64 q0] ∧ W.rangeAt w.heap.size 2 [.int .i64 r1, .int .i64 q1] ∧ W.rangeAt w.heap.size 4 [.int .i64 a, .int .i64 b, .slice A m1 c] ∧ W.rangeAt w.heap.size 7 [.int .i64 a2, .int .i64 b2, .slice A2 m2 c2]) := fun W hb =>
    ⟨rangeOf (Q0.below' hb) 0 _ rfl, rangeOf (Q0.below' hb) 2 _ rfl, rangeOf (Q0.below' hb) 4 _ rfl, rangeOf (Q0.below' hb) 7 _ rfl⟩
  have BB : Hid (∀ W, Below W0.heap.size W0 W → W.rangeAt (w.heap.size + 1) 0 [.int .i64 r0, .int .i64 q0] ∧ W.rangeAt (w.heap.size + 1) 2 [.int .i64 r1, .int .i64 q1] ∧ W.rangeAt (w.heap.size + 1) 4 [.int .i64 a, .int .i64 b, .slice B m1 d] ∧ W.rangeAt (w.heap.size + 1) 7 [.int .i64 a2, .int .i64 b2, .slice B2 m2 d2]) := fun W hb =>
    ⟨rangeOf (Q1.below' hb) 0 _ rfl, rangeOf (Q1.below' hb) 2 _ rfl, rangeOf (Q1.below' hb) 4 _ rfl, rangeOf (Q1.below' hb) 7 _ rfl⟩
  have HW := Lib.hid hW
  clear h h2 g g2 hm1 hm2 Q0 Q1 hW
  go_enter Try.func38, Try.ntmps38
  go_wp2_with (first
    | ((first | rw [← HW.out] | skip); refine wpList_load_mid rfl 79 (.tmp 5) rfl w.heap.size 0 rfl [.int .i64 r0, .int .i64 q0] _ (BA.out _ (by assumption)).1 Try.underlying79 rfl (by kernel_rfl) ?_)
    | (refine wpList_load_mid rfl 79 (.tmp 7) rfl (w.heap.size + 1) 0 rfl [.int .i64 r0, .int .i64 q0] _ (BB.out _ (by assumption)).1 Try.underlying79 rfl (by kernel_rfl) ?_)
    | (refine BigFrame.wpList_want (by kernel_rfl) fun K hK => wp_load_mid 79 (.tmp 11) rfl w.heap.size 2 rfl [.int .i64 r1, .int .i64 q1] _ (BA.out _ (by assumption)).2.1 Try.underlying79 rfl (by kernel_rfl) (hK _ _ ?_))
    | (refine BigFrame.wpList_want (by kernel_rfl) fun K hK => wp_load_mid 79 (.tmp 13) rfl (w.heap.size + 1) 2 rfl [.int .i64 r1, .int .i64 q1] _ (BB.out _ (by assumption)).2.1 Try.underlying79 rfl (by kernel_rfl) (hK _ _ ?_))
    | (refine BigFrame.wpList_want (by kernel_rfl) fun K hK => wp_load_mid 52 (.tmp 18) rfl w.heap.size 4 rfl [.int .i64 a, .int .i64 b, .slice A m1 c] _ (BA.out _ (by assumption)).2.2.1 Try.underlying52 rfl (by kernel_rfl) (hK _ _ ?_))
    | (refine BigFrame.wpList_want (by kernel_rfl) fun K hK => wp_load_mid 52 (.tmp 20) rfl (w.heap.size + 1) 4 rfl [.int .i64 a, .int .i64 b, .slice B m1 d] _ (BB.out _ (by assumption)).2.2.1 Try.underlying52 rfl (by kernel_rfl) (hK _ _ ?_))
    | (go_at_call 22; (with_reducible refine (HP.out _ b0).mono ?_); rintro e w1 ⟨rfl, hb1⟩; have b1 := bel_on b0 hb1; have D1 := bel_on D0 hb1; clear hb1 D0)
    | (refine BigFrame.wpList_want (by kernel_rfl) fun K hK => wp_load_mid 52 (.tmp 25) rfl w.heap.size 7 rfl [.int .i64 a2, .int .i64 b2, .slice A2 m2 c2] _ (BA.out _ (by assumption)).2.2.2 Try.underlying52 rfl (by kernel_rfl) (hK _ _ ?_))
    | (refine BigFrame.wpList_want (by kernel_rfl) fun K hK => wp_load_mid 52 (.tmp 27) rfl (w.heap.size + 1) 7 rfl [.int .i64 a2, .int .i64 b2, .slice B2 m2 d2] _ (BB.out _ (by assumption)).2.2.2 Try.underlying52 rfl (by kernel_rfl) (hK _ _ ?_))
    | (go_at_call 22; (with_reducible refine (HR.out _ b1).mono ?_); rintro e w2 ⟨rfl, hb2⟩; have b2 := bel_on b1 hb2; clear hb2))
  go_ret
  exact ⟨rfl, b2⟩
end Go.Proofs.Ytinpiodfpnbllaa

/- The place of a receiver, told from the list without its ends. -/
namespace Go.Proofs.Ytinpiodfpnbllaa
set_option linter.unusedVariables false

theorem ended_at {es : List Ent} {i : Nat} (hi : i < es.length) : ∃ h : i + 1 < (endedE es).length, (endedE es)[i + 1]'h = es[i] := by
  refine ⟨by rw [endedE_length]; omega, ?_⟩
  simp [endedE, List.getElem_append_left hi]
theorem low_at {es : List Ent} (hv : validL es = true) {i : Nat} (hi : i < es.length) {u : Int} (hu : es[i].1 = u) : lowE (endedE es) u = i + 1 ∧ hitE (endedE es) u = true ∧ (endedE es).getD (i + 1) (0, 0) = es[i] := by
  obtain ⟨h1, h2⟩ := ended_at hi
  have hp := List.pairwise_iff_getElem.1 (endedE_pair hv)
  have hl : lowE (endedE es) u = i + 1 := by
    refine lowE_eq (by omega) (fun k h hk => ?_) (fun k h hk => ?_)
    · have := hp k (i + 1) h h1 hk
      rw [h2] at this
      omega
    · by_cases e : k = i + 1
      · subst e; rw [h2]; omega
      · have := hp (i + 1) k h1 h (by omega)
        rw [h2] at this
        omega
  have hg : (endedE es).getD (i + 1) (0, 0) = es[i] := by rw [List.getD_eq_getElem?_getD, List.getElem?_eq_getElem h1, h2]; rfl
  refine ⟨hl, ?_, hg⟩
  unfold hitE
  rw [hl, hg]
  exact decide_eq_true ⟨hu, h1⟩
theorem low_none {es : List Ent} {u : Int} (h0 : 0 ≤ u) (h1 : u < 64) (hn : ∀ k (h : k < es.length), es[k].1 ≠ u) : hitE (endedE es) u = false := by
  unfold hitE
  refine decide_eq_false fun ⟨ha, hb⟩ => ?_
  generalize lowE (endedE es) u = p at ha hb
  rw [List.getD_eq_getElem?_getD, List.getElem?_eq_getElem hb] at ha
  simp only [Option.getD_some] at ha
  have hb2 := hb
  rw [endedE_length] at hb2
  cases p with
  | zero => simp [endedE] at ha; omega
  | succ k =>
    by_cases hk : k < es.length
    · obtain ⟨h3, h4⟩ := ended_at hk
      rw [h4] at ha
      exact hn k hk ha
    · have e : k = es.length := by omega
      subst e
      simp [endedE] at ha
      omega
end Go.Proofs.Ytinpiodfpnbllaa

/- Whether a revocation list is valid: the program's and the reference's. -/
namespace Go.Proofs.Ytinpiodfpnbllaa
open Go.RowKit
set_option linter.unusedVariables false
set_option linter.unusedSimpArgs false

set_option maxHeartbeats 4000000 in
set_option maxRecDepth 100000 in
theorem refValidList_any (es : List Ent) (A : Option Addr) (c : Nat) (w : World) {n : Nat} (hn : es.length = n) (h : ER w A c es) :
    Calls Try.prog 86 #[.slice A n c] w fun e w' => e = .returned (.bool (validL es)) ∧ Below w.heap.size w w' := by
  have hnl : (n : Int) ≤ 140737488351232 := by have := h.len; omega
  have HN := Lib.hid hn
  have H := Lib.hid h
  clear hn h
  go_enter Try.func86, Try.ntmps86
  go_wp2_with fail
  go_loopw [3] (fun vi wr => ∃ i : Nat, i ≤ n ∧ vi = .int .i64 (i : Int) ∧ Hid (validL (es.take i) = true) ∧ Below w.heap.size w wr) (fun vi _ => n - (intOf vi).toNat)
  case atStart => exact ⟨0, by omega, rfl, by unfold Hid; rfl, Below.refl _ _⟩
  case round =>
    obtain ⟨i, hi, rfl, HV, hbel⟩ := hrel
    by_cases hlt : i < n
    · have hii : (i : Int) < n := by omega
      have hil : i < es.length := by have := HN.out; omega
      have hcp := Rd.cap H.out
      have hle := Rd.le H.out
      obtain ⟨b, off, rfl, hb, hc0, hc1⟩ := (H.out.below hbel).at_ hil
      have HST := Lib.hid (validL_step hil HV.out)
      have HER := Lib.hid (H.out.below hbel)
      have hpv : i ≠ 0 → wr.cell? ⟨b, off + (i - 1) * 2, none⟩ = some (.int .i64 (es.getD (i - 1) (0, 0)).1) := fun h0 => by
        obtain ⟨b', off', e, _, hc, _⟩ := HER.out.at_ (i := i - 1) (by omega)
        injection e with e
        injection e with e1 e2
        subst e1 e2
        rw [hc, List.getD_eq_getElem?_getD, List.getElem?_eq_getElem (by omega)]; rfl
      have HPV := Lib.hid hpv
      obtain ⟨x, hx⟩ : ∃ x, es[i] = x := ⟨_, rfl⟩
      rw [hx] at hc0 hc1 HST
      obtain ⟨r, u⟩ := x
      obtain ⟨p, hp⟩ : ∃ p, (es.getD (i - 1) (0, 0)).1 = p := ⟨_, rfl⟩
      simp only [hp] at hpv HPV HST
      clear hpv hil hp hx hcp hle
      have HBAD : validL (es.take (i + 1)) = false → Hid (validL es = false) := fun hb => validL_bad hb
      have ways : r < 0 ∨ (0 ≤ r ∧ 64 ≤ r) ∨ (0 ≤ r ∧ r < 64 ∧ u < 0) ∨ (0 ≤ r ∧ r < 64 ∧ 0 ≤ u ∧ 1099511627776 < u) ∨ (0 ≤ r ∧ r < 64 ∧ 0 ≤ u ∧ u ≤ 1099511627776 ∧ i = 0) ∨ (0 ≤ r ∧ r < 64 ∧ 0 ≤ u ∧ u ≤ 1099511627776 ∧ 1 ≤ i ∧ r ≤ p) ∨ (0 ≤ r ∧ r < 64 ∧ 0 ≤ u ∧ u ≤ 1099511627776 ∧ 1 ≤ i ∧ p < r) := by omega
      simp only at hc0 hc1
      have HC0 := Lib.hid hc0
      have HC1 := Lib.hid hc1
      clear hc0 hc1
      rcases ways with h1 | ⟨h1, h2⟩ | ⟨h1, h2, h3⟩ | ⟨h1, h2, h3, h4⟩ | ⟨h1, h2, h3, h4, h5⟩ | ⟨h1, h2, h3, h4, h5, h6⟩ | ⟨h1, h2, h3, h4, h5, h6⟩
      · skip
        have s0 : decide (r < 0) = true := by simp; omega
        have HF := HBAD (step_bad HST.out (by omega))
        have c0 := HC0.out
        have c1 := HC1.out
        clear HBAD HST h1
        go_wp2_with fail
        go_quiet (fail)
        go_wp2_with fail
        go_ret
        exact ⟨by rw [HF.out]; rfl, below_drewN hbel _⟩
      · skip
        have s0 : decide (r < 0) = false := by simp; omega
        have s1 : decide (64 ≤ r) = true := by simp; omega
        have HF := HBAD (step_bad HST.out (by omega))
        have c0 := HC0.out
        have c1 := HC1.out
        clear HBAD HST h1 h2
        go_wp2_with fail
        go_quiet (fail)
        go_wp2_with fail
        go_ret
        exact ⟨by rw [HF.out]; rfl, below_drewN hbel _⟩
      · skip
        have s0 : decide (r < 0) = false := by simp; omega
        have s1 : decide (64 ≤ r) = false := by simp; omega
        have s2 : decide (u < 0) = true := by simp; omega
        have HF := HBAD (step_bad HST.out (by omega))
        have c0 := HC0.out
        have c1 := HC1.out
        clear HBAD HST h1 h2 h3
        go_wp2_with fail
        go_quiet (fail)
        go_wp2_with fail
        go_ret
        exact ⟨by rw [HF.out]; rfl, below_drewN hbel _⟩
      · skip
        have s0 : decide (r < 0) = false := by simp; omega
        have s1 : decide (64 ≤ r) = false := by simp; omega
        have s2 : decide (u < 0) = false := by simp; omega
        have s3 : decide (1099511627776 < u) = true := by simp; omega
        have HF := HBAD (step_bad HST.out (by omega))
        have c0 := HC0.out
        have c1 := HC1.out
        clear HBAD HST h1 h2 h3 h4
        go_wp2_with fail
        go_quiet (fail)
        go_wp2_with fail
        go_ret
        exact ⟨by rw [HF.out]; rfl, below_drewN hbel _⟩
      · skip
        have s0 : decide (r < 0) = false := by simp; omega
        have s1 : decide (64 ≤ r) = false := by simp; omega
        have s2 : decide (u < 0) = false := by simp; omega
        have s3 : decide (1099511627776 < u) = false := by simp; omega
        subst h5
        have s4 : decide ((0 : Int) < ((0 : Nat) : Int)) = false := by simp
        have s5 : decide ((0 : Nat) < 0) = false := by simp
        have HT := Lib.hid (step_good HST.out ⟨h1, h2, h3, h4⟩ (Or.inl rfl))
        have c0 := HC0.out
        have c1 := HC1.out
        simp only [Nat.zero_mul, Nat.add_zero] at c0 c1
        clear HBAD HST h1 h2 h3 h4
        go_wp2_with fail
        go_quiet (fail)
        go_wp2_with fail
        go_roundw
        case rel => exact ⟨0 + 1, by omega, by go_num, HT, below_drewN hbel _⟩
        case measure => simp [intOf]; omega
      · skip
        have s0 : decide (r < 0) = false := by simp; omega
        have s1 : decide (64 ≤ r) = false := by simp; omega
        have s2 : decide (u < 0) = false := by simp; omega
        have s3 : decide (1099511627776 < u) = false := by simp; omega
        have s4 : decide ((0 : Int) < (i : Int)) = true := by simp; omega
        have s5 : decide (0 < i) = true := by simp; omega
        have hpc : wr.cell? ⟨b, off + (i - 1) * 2, none⟩ = some (.int .i64 p) := HPV.out (by omega)
        have HPC := Lib.hid hpc
        clear hpc
        have hw1 : IntKind.i64.wrap ((i : Int) - 1) = (i : Int) - 1 := by rw [IntKind.wrap_i64]; omega
        have hw2 : (0 : Int) ≤ (i : Int) - 1 := by omega
        have hw3 : (i : Int) - 1 < (n : Int) := by omega
        have hw4 : ((i : Int) - 1).toNat = i - 1 := by omega
        have hw5 : (1 : Int) ≤ (i : Int) := by omega
        have s6 : decide (r ≤ p) = true := by simp; omega
        have HF := HBAD (step_low HST.out h5 h6)
        have c0 := HC0.out
        have c1 := HC1.out
        clear HBAD HST h1 h2 h3 h4 h5 h6
        have c2 := HPC.out
        go_wp2_with fail
        go_quiet (fail)
        go_wp2_with fail
        go_ret
        exact ⟨by rw [HF.out]; rfl, below_drewN hbel _⟩
      · skip
        have s0 : decide (r < 0) = false := by simp; omega
        have s1 : decide (64 ≤ r) = false := by simp; omega
        have s2 : decide (u < 0) = false := by simp; omega
        have s3 : decide (1099511627776 < u) = false := by simp; omega
        have s4 : decide ((0 : Int) < (i : Int)) = true := by simp; omega
        have s5 : decide (0 < i) = true := by simp; omega
        have hpc : wr.cell? ⟨b, off + (i - 1) * 2, none⟩ = some (.int .i64 p) := HPV.out (by omega)
        have HPC := Lib.hid hpc
        clear hpc
        have hw1 : IntKind.i64.wrap ((i : Int) - 1) = (i : Int) - 1 := by rw [IntKind.wrap_i64]; omega
        have hw2 : (0 : Int) ≤ (i : Int) - 1 := by omega
        have hw3 : (i : Int) - 1 < (n : Int) := by omega
        have hw4 : ((i : Int) - 1).toNat = i - 1 := by omega
        have hw5 : (1 : Int) ≤ (i : Int) := by omega
        have s6 : decide (r ≤ p) = false := by simp; omega
        have HT := Lib.hid (step_good HST.out ⟨h1, h2, h3, h4⟩ (Or.inr h6))
        have c0 := HC0.out
        have c1 := HC1.out
        clear HBAD HST h1 h2 h3 h4 h5 h6
        have c2 := HPC.out
        go_wp2_with fail
        go_quiet (fail)
        go_wp2_with fail
        go_roundw
        case rel => exact ⟨i + 1, by omega, by go_num, HT, below_drewN hbel _⟩
        case measure => simp [intOf]; omega
    · obtain rfl : i = n := by omega
      have hii : (i : Int) ≤ i := Int.le_refl _
      have HT : Hid (validL es = true) := by unfold Hid; have := HV.out; rwa [List.take_of_length_le (by have := HN.out; omega)] at this
      go_wp2_with fail
      go_ret
      exact ⟨by rw [HT.out]; rfl, hbel⟩
end Go.Proofs.Ytinpiodfpnbllaa

/- The proof that a receiver is on a list: the reference's. -/
namespace Go.Proofs.Ytinpiodfpnbllaa
open Go.RowKit
set_option linter.unusedVariables false
set_option linter.unusedSimpArgs false

set_option maxHeartbeats 4000000 in
set_option maxRecDepth 100000 in
theorem refProveOn_bad (es : List Ent) (u : Int) (A : Option Addr) (c : Nat) (w : World) {n : Nat} (hn : es.length = n) (h : ER w A c es) (hv : validL es = false) :
    Calls Try.prog 35 #[.slice A n c, .int .i64 u] w fun e w' => OnEnd w.heap.size (onS es u).x (onS es u).a (onS es u).b (onS es u).P (onS es u).e e w' ∧ Below w.heap.size w w' := by
  have HS : Hid (onS es u = ⟨(0, 0), 0, 0, [], 90⟩) := by
    unfold Hid onS
    rw [if_pos hv]
  have b0 := alloc2_bel w (.cells #[.int .i64 0, .int .i64 0] 79) (.cells #[.int .i64 0, .int .i64 0, .slice none 0 0] 52)
  have HV : Hid (∀ W, Below w.heap.size w W → Calls Try.prog 86 #[.slice A n c] W fun e w' => e = .returned (.bool false) ∧ Below W.heap.size W w') := fun W hW => by
    have := refValidList_any es A c W hn (h.below hW)
    rw [hv] at this
    exact this
  clear hn h
  go_enter Try.func35, Try.ntmps35
  go_wp2_with (go_at_call 86; refine (HV.out _ b0).mono ?_; rintro e w1 ⟨rfl, hb1⟩; have b1 := Lib.hid (bel_on b0 hb1); have hz := hb1.size; obtain ⟨hc, hf⟩ := bcell hb1; clear hb1)
  have hlt : w.heap.size + 1 < w1.heap.size := by simp at hz; omega
  have hlt0 : w.heap.size < w1.heap.size := by omega
  have g0 : w.heap.size < ((w.alloc (.cells #[.int .i64 0, .int .i64 0] 79)).alloc (.cells #[.int .i64 0, .int .i64 0, .slice none 0 0] 52)).heap.size := by simp; omega
  have g1 : w.heap.size + 1 < ((w.alloc (.cells #[.int .i64 0, .int .i64 0] 79)).alloc (.cells #[.int .i64 0, .int .i64 0, .slice none 0 0] 52)).heap.size := by simp
  have k0 := (hc _ 0 g0).trans ((blk_b0 w _ _ _).cell 0)
  have k1 := (hc _ 1 g0).trans ((blk_b0 w _ _ _).cell 1)
  have k2 := (hc _ 0 g1).trans ((blk_b1 w _ _ _).cell 0)
  have k3 := (hc _ 1 g1).trans ((blk_b1 w _ _ _).cell 1)
  have k4 := (hc _ 2 g1).trans ((blk_b1 w _ _ _).cell 2)
  clear hc hf g0 g1
  refine bodyPost_ret (v := .tuple #[.agg #[.int .i64 0, .int .i64 0], .agg #[.int .i64 0, .int .i64 0, .slice none 0 0], .int .i64 90]) (by simp [results, Try.f35, go_sem, k0, k1, k2, k3, k4, hlt, hlt0]) rfl ⟨⟨none, 0, by rw [HS.out]; rfl, by rw [HS.out]; exact OK16.nil _ _⟩, ?_⟩
  exact ((((b1.out.setCell (by simp) _).setCell (by simp) _).setCell (by simp) _).setCell (by simp) _).setCell (by simp) _

set_option maxHeartbeats 4000000 in
set_option maxRecDepth 100000 in
theorem refProveOn_low (es : List Ent) (u : Int) (A : Option Addr) (c : Nat) (w : World) {n : Nat} (hn : es.length = n) (h : ER w A c es) (hv : validL es = true) (hu : u < 0) :
    Calls Try.prog 35 #[.slice A n c, .int .i64 u] w fun e w' => OnEnd w.heap.size (onS es u).x (onS es u).a (onS es u).b (onS es u).P (onS es u).e e w' ∧ Below w.heap.size w w' := by
  have HS : Hid (onS es u = ⟨(0, 0), 0, 0, [], 2⟩) := by
    unfold Hid onS
    rw [if_neg (by rw [hv]; simp), if_pos (.inl hu)]
  have b0 := alloc2_bel w (.cells #[.int .i64 0, .int .i64 0] 79) (.cells #[.int .i64 0, .int .i64 0, .slice none 0 0] 52)
  have HV : Hid (∀ W, Below w.heap.size w W → Calls Try.prog 86 #[.slice A n c] W fun e w' => e = .returned (.bool true) ∧ Below W.heap.size W w') := fun W hW => by
    have := refValidList_any es A c W hn (h.below hW)
    rw [hv] at this
    exact this
  clear hn h
  have s0 : decide (u < 0) = true := by simp [hu]
  go_enter Try.func35, Try.ntmps35
  go_wp2_with (go_at_call 86; refine (HV.out _ b0).mono ?_; rintro e w1 ⟨rfl, hb1⟩; have b1 := Lib.hid (bel_on b0 hb1); have hz := hb1.size; obtain ⟨hc, hf⟩ := bcell hb1; clear hb1)
  have hlt : w.heap.size + 1 < w1.heap.size := by simp at hz; omega
  have hlt0 : w.heap.size < w1.heap.size := by omega
  have g0 : w.heap.size < ((w.alloc (.cells #[.int .i64 0, .int .i64 0] 79)).alloc (.cells #[.int .i64 0, .int .i64 0, .slice none 0 0] 52)).heap.size := by simp; omega
  have g1 : w.heap.size + 1 < ((w.alloc (.cells #[.int .i64 0, .int .i64 0] 79)).alloc (.cells #[.int .i64 0, .int .i64 0, .slice none 0 0] 52)).heap.size := by simp
  have k0 := (hc _ 0 g0).trans ((blk_b0 w _ _ _).cell 0)
  have k1 := (hc _ 1 g0).trans ((blk_b0 w _ _ _).cell 1)
  have k2 := (hc _ 0 g1).trans ((blk_b1 w _ _ _).cell 0)
  have k3 := (hc _ 1 g1).trans ((blk_b1 w _ _ _).cell 1)
  have k4 := (hc _ 2 g1).trans ((blk_b1 w _ _ _).cell 2)
  clear hc hf g0 g1
  refine bodyPost_ret (v := .tuple #[.agg #[.int .i64 0, .int .i64 0], .agg #[.int .i64 0, .int .i64 0, .slice none 0 0], .int .i64 2]) (by simp [results, Try.f35, go_sem, k0, k1, k2, k3, k4, hlt, hlt0]) rfl ⟨⟨none, 0, by rw [HS.out]; rfl, by rw [HS.out]; exact OK16.nil _ _⟩, ?_⟩
  exact ((((b1.out.setCell (by simp) _).setCell (by simp) _).setCell (by simp) _).setCell (by simp) _).setCell (by simp) _

set_option maxHeartbeats 4000000 in
set_option maxRecDepth 100000 in
theorem refProveOn_high (es : List Ent) (u : Int) (A : Option Addr) (c : Nat) (w : World) {n : Nat} (hn : es.length = n) (h : ER w A c es) (hv : validL es = true) (hu : 64 ≤ u) :
    Calls Try.prog 35 #[.slice A n c, .int .i64 u] w fun e w' => OnEnd w.heap.size (onS es u).x (onS es u).a (onS es u).b (onS es u).P (onS es u).e e w' ∧ Below w.heap.size w w' := by
  have HS : Hid (onS es u = ⟨(0, 0), 0, 0, [], 2⟩) := by
    unfold Hid onS
    rw [if_neg (by rw [hv]; simp), if_pos (.inr hu)]
  have b0 := alloc2_bel w (.cells #[.int .i64 0, .int .i64 0] 79) (.cells #[.int .i64 0, .int .i64 0, .slice none 0 0] 52)
  have HV : Hid (∀ W, Below w.heap.size w W → Calls Try.prog 86 #[.slice A n c] W fun e w' => e = .returned (.bool true) ∧ Below W.heap.size W w') := fun W hW => by
    have := refValidList_any es A c W hn (h.below hW)
    rw [hv] at this
    exact this
  clear hn h
  have s0 : decide (u < 0) = false := by simp; omega
  have s1 : decide (64 ≤ u) = true := by simp [hu]
  go_enter Try.func35, Try.ntmps35
  go_wp2_with (go_at_call 86; refine (HV.out _ b0).mono ?_; rintro e w1 ⟨rfl, hb1⟩; have b1 := Lib.hid (bel_on b0 hb1); have hz := hb1.size; obtain ⟨hc, hf⟩ := bcell hb1; clear hb1)
  have hlt : w.heap.size + 1 < w1.heap.size := by simp at hz; omega
  have hlt0 : w.heap.size < w1.heap.size := by omega
  have g0 : w.heap.size < ((w.alloc (.cells #[.int .i64 0, .int .i64 0] 79)).alloc (.cells #[.int .i64 0, .int .i64 0, .slice none 0 0] 52)).heap.size := by simp; omega
  have g1 : w.heap.size + 1 < ((w.alloc (.cells #[.int .i64 0, .int .i64 0] 79)).alloc (.cells #[.int .i64 0, .int .i64 0, .slice none 0 0] 52)).heap.size := by simp
  have k0 := (hc _ 0 g0).trans ((blk_b0 w _ _ _).cell 0)
  have k1 := (hc _ 1 g0).trans ((blk_b0 w _ _ _).cell 1)
  have k2 := (hc _ 0 g1).trans ((blk_b1 w _ _ _).cell 0)
  have k3 := (hc _ 1 g1).trans ((blk_b1 w _ _ _).cell 1)
  have k4 := (hc _ 2 g1).trans ((blk_b1 w _ _ _).cell 2)
  clear hc hf g0 g1
  refine bodyPost_ret (v := .tuple #[.agg #[.int .i64 0, .int .i64 0], .agg #[.int .i64 0, .int .i64 0, .slice none 0 0], .int .i64 2]) (by simp [results, Try.f35, go_sem, k0, k1, k2, k3, k4, hlt, hlt0]) rfl ⟨⟨none, 0, by rw [HS.out]; rfl, by rw [HS.out]; exact OK16.nil _ _⟩, ?_⟩
  exact ((((b1.out.setCell (by simp) _).setCell (by simp) _).setCell (by simp) _).setCell (by simp) _).setCell (by simp) _

set_option maxHeartbeats 4000000 in
set_option maxRecDepth 100000 in
theorem refProveOn_in (es : List Ent) (u : Int) (A : Option Addr) (c : Nat) (w : World) {n : Nat} (hn : es.length = n) (h : ER w A c es) (hv : validL es = true) (h2 : 0 ≤ u) (h3 : u < 64) :
    Calls Try.prog 35 #[.slice A n c, .int .i64 u] w fun e w' => OnEnd w.heap.size (onS es u).x (onS es u).a (onS es u).b (onS es u).P (onS es u).e e w' ∧ Below w.heap.size w w' := by
  have hs : n ≤ 64 := by rw [← hn]; exact validL_length hv
  have hnb : (n : Int) ≤ 64 := by omega
  have HN := Lib.hid hn
  have HLL : Hid ((leavesE es).length = n + 2) := by unfold Hid; rw [leavesE_length, hn]
  have HA : Hid (All16 (leavesE es)) := leavesE_16 es
  have HVV := Lib.hid hv
  have H := Lib.hid h
  have s0 : decide (u < 0) = false := by simp; omega
  have s1 : decide (64 ≤ u) = false := by simp; omega
  have HON : Hid (onS es u = if hitE (endedE es) u = false then ⟨(0, 0), 0, 0, [], 6⟩ else ⟨(endedE es).getD (lowE (endedE es) u) (0, 0), ((n + 2 : Nat) : Int), (lowE (endedE es) u : Int), pathS (leavesE es) (lowE (endedE es) u), 0⟩) := by
    unfold Hid onS
    rw [if_neg (by rw [hv]; simp), if_neg (by omega), hn]
  have b0 := alloc2_bel w (.cells #[.int .i64 0, .int .i64 0] 79) (.cells #[.int .i64 0, .int .i64 0, .slice none 0 0] 52)
  have HV : Hid (∀ W, Below w.heap.size w W → Calls Try.prog 86 #[.slice A n c] W fun e w' => e = .returned (.bool true) ∧ Below W.heap.size W w') := fun W hW => by
    have := refValidList_any es A c W hn (h.below hW)
    rw [hv] at this
    exact this
  have HLV : Hid (∀ W, Below w.heap.size w W → Calls Try.prog 87 #[.slice A n c] W fun e w' => (∃ X x, e = .returned (.slice X (n + 2) x) ∧ OK16 W.heap.size w' X x (leavesE es)) ∧ Below W.heap.size W w') := fun W hW => refLeaves_any es (valid_isE hv) A c W hn (h.below hW) (by omega)
  have HPR : Hid (∀ i, i < n + 2 → ∀ Y y W, KR W Y y (leavesE es) → Calls Try.prog 71 #[.slice Y (n + 2) y, .int .i64 (i : Int)] W fun e w' => (∃ A' c', e = .returned (.agg (prC (n + 2 : Nat) (i : Nat) A' (pathS (leavesE es) i).length c').toArray) ∧ OK16 W.heap.size w' A' c' (pathS (leavesE es) i)) ∧ Below W.heap.size W w') := fun i hi Y y W hW => refProofOf_any (leavesE es) i Y y W HLL.out hi (by omega) hW
  have B0 := Lib.hid (blk_b0 w #[.int .i64 0, .int .i64 0] 79 (.cells #[.int .i64 0, .int .i64 0, .slice none 0 0] 52))
  have B1 := Lib.hid (blk_b1 w (.cells #[.int .i64 0, .int .i64 0] 79) #[.int .i64 0, .int .i64 0, .slice none 0 0] 52)
  have HU := Lib.hid (And.intro h2 h3)
  clear hn h hv h2 h3
  go_enter Try.func35, Try.ntmps35
  go_wp2_with (go_at_call 86; refine (HV.out _ b0).mono ?_; rintro e w1 ⟨rfl, hb1⟩; have b1 := bel_on b0 hb1; have C0 := Lib.hid (B0.out.below' hb1); have C1 := Lib.hid (B1.out.below' hb1); have hz1 : w.heap.size + 2 ≤ w1.heap.size := (by have := hb1.size; simp at this; omega); clear hb1)
  go_loopw [7] (fun vi wr => ∃ i : Nat, i ≤ n ∧ vi = .int .i64 (i : Int) ∧ Hid (∀ k (h : k < es.length), k < i → es[k].1 ≠ u) ∧ Hid (Blk wr w.heap.size 79 #[.int .i64 0, .int .i64 0]) ∧ Hid (Blk wr (w.heap.size + 1) 52 #[.int .i64 0, .int .i64 0, .slice none 0 0]) ∧ w.heap.size + 2 ≤ wr.heap.size ∧ Below w.heap.size w wr) (fun vi _ => n - (intOf vi).toNat)
  case atStart => exact ⟨0, by omega, rfl, fun k h hk => absurd hk (by omega), C0, C1, hz1, b1⟩
  case round =>
    obtain ⟨i, hi, rfl, HI, D0, D1, hz, hbel⟩ := hrel
    by_cases hlt : i < n
    · have hii : (i : Int) < n := by omega
      have hil : i < es.length := by have := HN.out; omega
      obtain ⟨b, off, rfl, hb, hc0, hc1⟩ := (H.out.below hbel).at_ hil
      have HX : Hid (∀ W, Below w.heap.size w W → W.cell? ⟨b, off + i * 2, none⟩ = some (.int .i64 es[i].1) ∧ W.cell? ⟨b, off + i * 2 + 1, none⟩ = some (.int .i64 es[i].2)) := fun W hW => by
        obtain ⟨b', off', e, _, c0, c1⟩ := (H.out.below hW).at_ hil
        injection e with e
        injection e with e3 e4
        subst e3 e4
        exact ⟨c0, c1⟩
      by_cases hu : es[i].1 = u
      · obtain ⟨hl1, hl2, hl3⟩ := low_at HVV.out hil hu
        have HS : Hid (onS es u = ⟨es[i], ((n + 2 : Nat) : Int), ((i + 1 : Nat) : Int), pathS (leavesE es) (i + 1), 0⟩) := by
          unfold Hid
          rw [HON.out, if_neg (by rw [hl2]; simp), hl1, hl3]
        have HP := Lib.hid (HPR.out (i + 1) (by omega))
        generalize pathS (leavesE es) (i + 1) = P at HP HS
        generalize leavesE es = ls at *
        obtain ⟨X0, hX0⟩ : ∃ X0, es[i] = X0 := ⟨_, rfl⟩
        rw [hX0] at HX HS hc0 hc1 hu
        obtain ⟨r, q⟩ := X0
        simp only at HX hc0 hc1 hu
        have t0 : (r == u) = true := by simp [hu]
        obtain ⟨m, hm⟩ : ∃ m, P.length = m := ⟨_, rfl⟩
        rw [hm] at HP
        have HM := Lib.hid hm
        have e1 : IntKind.i64.wrap ((i : Int) + 1) = ((i + 1 : Nat) : Int) := by rw [IntKind.wrap_i64]; omega
        clear hil hX0 hl1 hl2 hl3 hm HON HPR hu
        go_wp2_with fail
        refine wp_region_noPanic ?_
        refine wp_region_held_drew (S := fun w' => w'.cell? ⟨b, off + i * 2, none⟩ = some (.int .i64 r) ∧ w'.cell? ⟨b, off + i * 2 + 1, none⟩ = some (.int .i64 q)) (by kernel_rfl) (HX.out _ hbel.drew) (fun hS => ?_)
        refine hd_take 0 (_) rfl rfl (by kernel_rfl) (by kernel_rfl) (by kernel_rfl) (fun _ _ _ h => h) (fun w _ => by go_simp <;> rfl) hS ?_
        refine hd_take 1 (_) rfl rfl (by kernel_rfl) (by kernel_rfl) (by kernel_rfl) (fun _ _ _ h => h) (fun w _ => by go_simp <;> rfl) hS ?_
        refine hd_take 4 (_) rfl rfl (by kernel_rfl) (by kernel_rfl) (by kernel_rfl) (fun _ _ _ h => h) (fun w _ => by go_simp <;> rfl) hS ?_
        refine hd_take 6 (_) rfl rfl (by kernel_rfl) (by kernel_rfl) (by kernel_rfl) (fun _ _ _ h => h) (fun w _ => by go_simp <;> rfl) hS ?_
        simp only [List.getElem_toArray, List.getElem_cons_succ, List.getElem_cons_zero, Act.put, List.setIfInBounds_toArray, List.set_cons_zero, List.set_cons_succ]
        refine hd_take 2 (_) rfl rfl (by kernel_rfl) (by kernel_rfl) (by kernel_rfl) (fun _ _ _ h => h) (fun w _ => by go_simp <;> rfl) hS ?_
        refine hd_take 7 (.int .i64 ((i + 1 : Nat) : Int)) rfl rfl (by kernel_rfl) (by kernel_rfl) (by kernel_rfl) (fun _ _ _ h => h) (fun w _ => by simp [go_sem, e1]) hS ?_
        simp only [List.getElem_toArray, List.getElem_cons_succ, List.getElem_cons_zero, Act.put, List.setIfInBounds_toArray, List.set_cons_zero, List.set_cons_succ]
        refine hd_take 3 (.agg #[.int .i64 r, .int .i64 q]) rfl rfl (by kernel_rfl) (by kernel_rfl) (by kernel_rfl) (fun _ _ _ h => h) (fun w h => by have hx := h.1; have hy := h.2; simp [go_sem, hx, hy]) hS ?_
        simp only [List.getElem_toArray, List.getElem_cons_succ, List.getElem_cons_zero, Act.put, List.setIfInBounds_toArray, List.set_cons_zero, List.set_cons_succ]
        have bd : Below w.heap.size w wr.drew := hbel.drew
        have E0 := D0.out.drew
        have E1 := D1.out.drew
        refine hd_calls 5 87 #[.slice (some ⟨b, off, none⟩) n c] rfl rfl (by kernel_rfl) (by go_simp <;> rfl) ?_
        refine (HLV.out _ bd).mono ?_
        rintro e w2 ⟨⟨Y, y, rfl, hk2⟩, hb2⟩
        have d2 := bel_on bd hb2
        refine ⟨_, rfl, HX.out _ d2, ?_⟩
        simp only [List.getElem_toArray, List.getElem_cons_succ, List.getElem_cons_zero, Act.put, List.setIfInBounds_toArray, List.set_cons_zero, List.set_cons_succ]
        refine hd_calls 8 71 #[.slice Y (n + 2) y, .int .i64 ((i + 1 : Nat) : Int)] rfl rfl (by kernel_rfl) (by go_simp <;> rfl) ?_
        refine (HP.out _ _ _ (hk2.kr (fun k hk => HA.out k hk) (by rw [HLL.out]; omega))).mono ?_
        rintro e w3 ⟨⟨A3, c3, rfl, ho3⟩, hb3⟩
        have d3 := bel_on d2 hb3
        refine ⟨_, rfl, HX.out _ d3, ?_⟩
        simp only [List.getElem_toArray, List.getElem_cons_succ, List.getElem_cons_zero, Act.put, List.setIfInBounds_toArray, List.set_cons_zero, List.set_cons_succ]
        have F0 := (E0.below' hb2).below' hb3
        have F1 := (E1.below' hb2).below' hb3
        have z3 : w.heap.size + 2 ≤ w2.heap.size := Nat.le_trans hz hb2.size
        have k0 := F0.cell 0
        have k1 := F0.cell 1
        have f0 := F0.frozen 0
        have f1 := F0.frozen 1
        have k2 := F1.cell 0
        have k3 := F1.cell 1
        have k4 := F1.cell 2
        have f2 := F1.frozen 0
        have f3 := F1.frozen 1
        have f4 := F1.frozen 2
        have d4 := (d3.setCell (p := ⟨w.heap.size, 0, none⟩) (by simp) (.int .i64 r)).setCell (p := ⟨w.heap.size, 1, none⟩) (by simp) (.int .i64 q)
        have P4 := (ho3.set_low ⟨w.heap.size, 0, none⟩ (.int .i64 r) (by simp; omega)).set_low ⟨w.heap.size, 1, none⟩ (.int .i64 q) (by simp; omega)
        refine hd_sole 9 (by kernel_rfl) (op_skip ((w3.setCell ⟨w.heap.size, 0, none⟩ (.int .i64 r)).setCell ⟨w.heap.size, 1, none⟩ (.int .i64 q)) rfl rfl (by simp [go_sem, k0, k1, f0, f1]) ⟨HX.out _ d4, ?_⟩)
        simp only [List.getElem_toArray, List.getElem_cons_succ, List.getElem_cons_zero, Act.put, List.setIfInBounds_toArray, List.set_cons_zero, List.set_cons_succ]
        have d5 := ((d4.setCell (p := ⟨w.heap.size + 1, 0, none⟩) (by simp) (.int .i64 ((n + 2 : Nat) : Int))).setCell (p := ⟨w.heap.size + 1, 1, none⟩) (by simp) (.int .i64 ((i + 1 : Nat) : Int))).setCell (p := ⟨w.heap.size + 1, 2, none⟩) (by simp) (.slice A3 m c3)
        have P5 := ((P4.set_low ⟨w.heap.size + 1, 0, none⟩ (.int .i64 ((n + 2 : Nat) : Int)) (by simp; omega)).set_low ⟨w.heap.size + 1, 1, none⟩ (.int .i64 ((i + 1 : Nat) : Int)) (by simp; omega)).set_low ⟨w.heap.size + 1, 2, none⟩ (.slice A3 m c3) (by simp; omega)
        refine hd_sole 10 (by kernel_rfl) (op_skip (((((w3.setCell ⟨w.heap.size, 0, none⟩ (.int .i64 r)).setCell ⟨w.heap.size, 1, none⟩ (.int .i64 q)).setCell ⟨w.heap.size + 1, 0, none⟩ (.int .i64 ((n + 2 : Nat) : Int))).setCell ⟨w.heap.size + 1, 1, none⟩ (.int .i64 ((i + 1 : Nat) : Int))).setCell ⟨w.heap.size + 1, 2, none⟩ (.slice A3 m c3)) rfl rfl (by simp [go_sem, prC, k2, k3, k4, f2, f3, f4]) ⟨HX.out _ d5, ?_⟩)
        simp only [List.getElem_toArray, List.getElem_cons_succ, List.getElem_cons_zero, Act.put, List.setIfInBounds_toArray, List.set_cons_zero, List.set_cons_succ]
        refine hd_take 11 (_) rfl rfl (by kernel_rfl) (by kernel_rfl) (by kernel_rfl) (fun _ _ _ h => h) (fun w _ => by go_simp <;> rfl) (HX.out _ d5) ?_
        simp only [List.getElem_toArray, List.getElem_cons_succ, List.getElem_cons_zero, Act.put, List.setIfInBounds_toArray, List.set_cons_zero, List.set_cons_succ]
        refine wpAnyH_done (by kernel_rfl) (NoPanic.normal ?_) _
        have BF := Lib.hid d5
        have PF := Lib.hid (P5.le_ (B' := w.heap.size) (by omega))
        clear hS d2 d3 d4 d5 P4 P5 ho3 hb2 hb3 hk2 E0 E1 F0 F1 bd
        go_wp2_with fail
        refine bodyPost_ret (v := .tuple #[.agg #[.int .i64 r, .int .i64 q], .agg #[.int .i64 ((n + 2 : Nat) : Int), .int .i64 ((i + 1 : Nat) : Int), .slice A3 m c3], .int .i64 0]) (by simp [results, Try.f35, go_sem, k0, k1, k2, k3, k4]) rfl ⟨⟨A3, c3, by rw [HS.out]; show _ = Ending.returned (.tuple #[.agg #[.int .i64 r, .int .i64 q], .agg #[.int .i64 ((n + 2 : Nat) : Int), .int .i64 ((i + 1 : Nat) : Int), .slice A3 P.length c3], .int .i64 0]); rw [HM.out], by rw [HS.out]; exact PF.out⟩, BF.out⟩
      · have HG : Hid (∀ k (h : k < es.length), k < i + 1 → es[k].1 ≠ u) := fun k h hk => by
          by_cases e : k = i
          · subst e; exact hu
          · exact HI.out k h (by omega)
        obtain ⟨X0, hX0⟩ : ∃ X0, es[i] = X0 := ⟨_, rfl⟩
        rw [hX0] at hc0 hc1 hu
        obtain ⟨r, q⟩ := X0
        simp only at hc0 hc1 hu
        have t0 : (r == u) = false := by simp [hu]
        clear hil hX0 hu HX
        go_wp2_with fail
        go_roundw
        case rel => exact ⟨i + 1, by omega, by go_num, HG, D0, D1, hz, hbel⟩
        case measure => simp [intOf]; omega
    · obtain rfl : i = n := by omega
      have hii : (i : Int) ≤ i := Int.le_refl _
      have HS : Hid (onS es u = ⟨(0, 0), 0, 0, [], 6⟩) := by
        unfold Hid
        rw [HON.out, if_pos (low_none HU.out.1 HU.out.2 fun k h => HI.out k h (by have := HN.out; omega))]
      have k0 := D0.out.cell 0
      have k1 := D0.out.cell 1
      have f0 := D0.out.frozen 0
      have f1 := D0.out.frozen 1
      have k2 := D1.out.cell 0
      have k3 := D1.out.cell 1
      have k4 := D1.out.cell 2
      have f2 := D1.out.frozen 0
      have f3 := D1.out.frozen 1
      have f4 := D1.out.frozen 2
      clear HON HPR
      go_wp2_with fail
      refine bodyPost_ret (v := .tuple #[.agg #[.int .i64 0, .int .i64 0], .agg #[.int .i64 0, .int .i64 0, .slice none 0 0], .int .i64 6]) (by simp [results, Try.f35, go_sem, k0, k1, k2, k3, k4]) rfl ⟨⟨none, 0, by rw [HS.out]; rfl, by rw [HS.out]; exact OK16.nil _ _⟩, ?_⟩
      exact ((((hbel.setCell (by simp) _).setCell (by simp) _).setCell (by simp) _).setCell (by simp) _).setCell (by simp) _

theorem refProveOn_any (es : List Ent) (u : Int) (A : Option Addr) (c : Nat) (w : World) {n : Nat} (hn : es.length = n) (h : ER w A c es) :
    Calls Try.prog 35 #[.slice A n c, .int .i64 u] w fun e w' => OnEnd w.heap.size (onS es u).x (onS es u).a (onS es u).b (onS es u).P (onS es u).e e w' ∧ Below w.heap.size w w' := by
  cases hv : validL es with
  | false => exact refProveOn_bad es u A c w hn h hv
  | true =>
    by_cases hu : u < 0
    · exact refProveOn_low es u A c w hn h hv hu
    · by_cases hu2 : 64 ≤ u
      · exact refProveOn_high es u A c w hn h hv hu2
      · exact refProveOn_in es u A c w hn h hv (by omega) (by omega)
end Go.Proofs.Ytinpiodfpnbllaa

/- The reference's Until: what a list says of a receiver. -/
namespace Go.Proofs.Ytinpiodfpnbllaa
open Go.RowKit
set_option linter.unusedVariables false
set_option linter.unusedSimpArgs false

theorem untilS_drop {es : List Ent} {u : Int} {i : Nat} (h : i < es.length) : untilS (es.drop i) u = if es[i].1 = u then es[i].2 else untilS (es.drop (i + 1)) u := by
  rw [List.drop_eq_getElem_cons h]; rfl

set_option maxHeartbeats 4000000 in
set_option maxRecDepth 100000 in
theorem refUntil_any (es : List Ent) (u : Int) (A : Option Addr) (c : Nat) (w : World) {n : Nat} (hn : es.length = n) (h : ER w A c es) :
    Calls Try.prog 88 #[.slice A n c, .int .i64 u] w fun e w' => e = .returned (.int .i64 (untilS es u)) ∧ Below w.heap.size w w' := by
  have hnl : (n : Int) ≤ 140737488351232 := by have := h.len; omega
  have HN := Lib.hid hn
  have H := Lib.hid h
  clear hn h
  go_enter Try.func88, Try.ntmps88
  go_wp2_with fail
  go_loopw [5] (fun vi wr => ∃ i : Nat, i ≤ n ∧ vi = .int .i64 (i : Int) ∧ Hid (untilS es u = untilS (es.drop i) u) ∧ Below w.heap.size w wr) (fun vi _ => n - (intOf vi).toNat)
  case atStart => exact ⟨0, by omega, rfl, by unfold Hid; rfl, Below.refl _ _⟩
  case round =>
    obtain ⟨i, hi, rfl, HV, hbel⟩ := hrel
    by_cases hlt : i < n
    · have hii : (i : Int) < n := by omega
      have hil : i < es.length := by have := HN.out; omega
      obtain ⟨b, off, rfl, hb, hc0, hc1⟩ := (H.out.below hbel).at_ hil
      have HST := Lib.hid (HV.out.trans (untilS_drop hil))
      obtain ⟨x, hx⟩ : ∃ x, es[i] = x := ⟨_, rfl⟩
      rw [hx] at hc0 hc1 HST
      obtain ⟨r, q⟩ := x
      simp only at hc0 hc1 HST
      clear hil hx HV
      by_cases hr : r = u
      · have s0 : (r == u) = true := by simp [hr]
        have HF : Hid (untilS es u = q) := by unfold Hid; rw [HST.out, if_pos hr]
        clear HST hr
        go_wp2_with fail
        all_goals (go_ret; exact ⟨by rw [HF.out]; rfl, hbel⟩)
      · have s0 : (r == u) = false := by simp [hr]
        have HF : Hid (untilS es u = untilS (es.drop (i + 1)) u) := by unfold Hid; rw [HST.out, if_neg hr]
        clear HST hr
        go_wp2_with fail
        go_roundw
        case rel => exact ⟨i + 1, by omega, by go_num, HF, hbel⟩
        case measure => simp [intOf]; omega
    · obtain rfl : i = n := by omega
      have hii : (i : Int) ≤ i := Int.le_refl _
      have HT : Hid (untilS es u = -1) := by unfold Hid; rw [HV.out, List.drop_of_length_le (by have := HN.out; omega)]; rfl
      go_wp2_with fail
      go_ret
      exact ⟨by rw [HT.out]; rfl, hbel⟩
end Go.Proofs.Ytinpiodfpnbllaa
