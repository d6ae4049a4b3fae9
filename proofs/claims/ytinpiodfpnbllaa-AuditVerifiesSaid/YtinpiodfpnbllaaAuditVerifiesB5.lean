/-
  Lemmas and contracts, joined: part 5.
-/
import Derived.Laws.ResultCell
import Derived.Test.YtinpiodfpnbllaaAuditVerifiesB4
set_option linter.unusedSimpArgs false
set_option linter.unusedVariables false
set_option linter.unnecessarySimpa false
/- The proof of a leaf: the program's and the reference's; the reference's growth. -/
namespace Go.Proofs.Ytinpiodfpnbllaa
open Go.RowKit
set_option linter.unusedVariables false
set_option linter.unusedSimpArgs false

/-- The cells of a proof, or of a growth. -/
def prC (a b : Int) (A : Option Addr) (n c : Nat) : List Value := [.int .i64 a, .int .i64 b, .slice A n c]
theorem bcell {W w1 : World} (hb : Below W.heap.size W w1) : (∀ b o, b < W.heap.size → w1.cell? ⟨b, o, none⟩ = W.cell? ⟨b, o, none⟩) ∧ (∀ b o, b < W.heap.size → w1.frozen? ⟨b, o, none⟩ = W.frozen? ⟨b, o, none⟩) :=
  ⟨fun b o h => hb.cell (p := ⟨b, o, none⟩) h, fun b o h => hb.frozen (p := ⟨b, o, none⟩) h⟩
theorem OK16.set_low {B : Nat} {w : World} {A : Option Addr} {c : Nat} {ks : List (List UInt8)} (h : OK16 B w A c ks) (p : Addr) (u : Value) (hp : p.block < B) : OK16 B (w.setCell p u) A c ks := by
  refine ⟨h.1, h.2.elim Or.inl fun ⟨g, cap, cur, hv, hg, hh, r⟩ => Or.inr ⟨g, cap, cur, hv, hg, ?_, r⟩⟩
  exact (Below.heap_setCell w p u g (by omega)).trans hh
/-- What is returned: a proof or a growth, with an error. -/
def PrEnd (B : Nat) (a b : Int) (P : List (List UInt8)) (e0 : Int) (e : Ending) (w' : World) : Prop := ∃ A c, e = .returned (.tuple #[.agg (prC a b A P.length c).toArray, .int .i64 e0]) ∧ OK16 B w' A c P
structure PrV where
  a : Int
  b : Int
  P : List (List UInt8)
  e : Int
def proveS (ks : List (List UInt8)) (i : Int) : PrV := if 128 < ks.length then ⟨0, 0, [], 4⟩ else if i < 0 ∨ (ks.length : Int) ≤ i then ⟨0, 0, [], 2⟩ else ⟨ks.length, i, pathS ks i.toNat, 0⟩
def growthS (ks : List (List UInt8)) (i : Int) : PrV := if 128 < ks.length then ⟨0, 0, [], 4⟩ else if i < 1 ∨ (ks.length : Int) < i then ⟨0, 0, [], 2⟩ else ⟨i, ks.length, partS ks i.toNat true, 0⟩

set_option maxHeartbeats 1000000 in
theorem proof_any (ks : List (List UInt8)) (i : Nat) (A : Option Addr) (c : Nat) (w : World) {n : Nat} (hn : ks.length = n) (hi : i < n) (hbig : n ≤ 1000) (h : KR w A c ks) :
    Calls Try.prog 70 #[.slice A n c, .int .i64 (i : Int)] w fun e w' => (∃ A' c', e = .returned (.agg (prC n i A' (pathS ks i).length c').toArray) ∧ OK16 w.heap.size w' A' c' (pathS ks i)) ∧ Below w.heap.size w w' := by
  have hni : (n : Int) ≤ 1000 := by omega
  have b0 := alloc_bel w (.cells #[.int .i64 0, .int .i64 0, .slice none 0 0] 52)
  have HP : Hid (∀ W, Below w.heap.size w W → Calls Try.prog 130 #[.slice A n c, .int .i64 (i : Int)] W fun e w' => (∃ A' c', e = .returned (.slice A' (pathS ks i).length c') ∧ OK16 W.heap.size w' A' c' (pathS ks i)) ∧ Below W.heap.size W w') := fun W hW => prove_any ks i A c W hn hi hbig (h.below hW)
  generalize pathS ks i = P at HP ⊢
  generalize P.length = m at HP ⊢
  clear hn hi hbig h
  go_enter Try.func70, Try.ntmps70
  go_wp2_with (go_at_call 130; refine (HP.out _ b0).mono ?_; rintro e w1 ⟨⟨A1, c1, rfl, ho1⟩, hb1⟩; have b1 := Lib.hid (bel_on b0 hb1); have HO := Lib.hid ho1; have hz := hb1.size; obtain ⟨hc, hf⟩ := bcell hb1; clear ho1 hb1)
  have hlt : w.heap.size < w1.heap.size := by simp at hz; omega
  refine bodyPost_ret (v := .agg #[.int .i64 (n : Int), .int .i64 (i : Int), .slice A1 m c1]) (by simp [results, Try.f70, go_sem, hc, hf, hlt]) rfl ⟨⟨A1, c1, rfl, (((HO.out.set_low _ _ (by simp)).set_low _ _ (by simp)).set_low _ _ (by simp)).le_ (by simp)⟩, ?_⟩
  exact ((b1.out.setCell (by simp) _).setCell (by simp) _).setCell (by simp) _

set_option maxHeartbeats 1000000 in
theorem refProofOf_any (ks : List (List UInt8)) (i : Nat) (A : Option Addr) (c : Nat) (w : World) {n : Nat} (hn : ks.length = n) (hi : i < n) (hbig : n ≤ 1000) (h : KR w A c ks) :
    Calls Try.prog 71 #[.slice A n c, .int .i64 (i : Int)] w fun e w' => (∃ A' c', e = .returned (.agg (prC n i A' (pathS ks i).length c').toArray) ∧ OK16 w.heap.size w' A' c' (pathS ks i)) ∧ Below w.heap.size w w' := by
  have hni : (n : Int) ≤ 1000 := by omega
  have b0 := alloc_bel w (.cells #[.int .i64 0, .int .i64 0, .slice none 0 0] 52)
  have HP : Hid (∀ W, Below w.heap.size w W → Calls Try.prog 131 #[.slice A n c, .int .i64 (i : Int)] W fun e w' => (∃ A' c', e = .returned (.slice A' (pathS ks i).length c') ∧ OK16 W.heap.size w' A' c' (pathS ks i)) ∧ Below W.heap.size W w') := fun W hW => refPath_any n ks i A c W hn hi hbig (h.below hW)
  generalize pathS ks i = P at HP ⊢
  generalize P.length = m at HP ⊢
  clear hn hi hbig h
  go_enter Try.func71, Try.ntmps71
  go_wp2_with (go_at_call 131; refine (HP.out _ b0).mono ?_; rintro e w1 ⟨⟨A1, c1, rfl, ho1⟩, hb1⟩; have b1 := Lib.hid (bel_on b0 hb1); have HO := Lib.hid ho1; have hz := hb1.size; obtain ⟨hc, hf⟩ := bcell hb1; clear ho1 hb1)
  have hlt : w.heap.size < w1.heap.size := by simp at hz; omega
  refine bodyPost_ret (v := .agg #[.int .i64 (n : Int), .int .i64 (i : Int), .slice A1 m c1]) (by simp [results, Try.f71, go_sem, hc, hf, hlt]) rfl ⟨⟨A1, c1, rfl, (((HO.out.set_low _ _ (by simp)).set_low _ _ (by simp)).set_low _ _ (by simp)).le_ (by simp)⟩, ?_⟩
  exact ((b1.out.setCell (by simp) _).setCell (by simp) _).setCell (by simp) _

set_option maxHeartbeats 1000000 in
theorem Prove_any (ks : List (List UInt8)) (i : Int) (A : Option Addr) (c : Nat) (w : World) {n : Nat} (hn : ks.length = n) (h : KR w A c ks) :
    Calls Try.prog 20 #[.slice A n c, .int .i64 i] w fun e w' => PrEnd w.heap.size (proveS ks i).a (proveS ks i).b (proveS ks i).P (proveS ks i).e e w' ∧ Below w.heap.size w w' := by
  have hnl : (n : Int) ≤ 140737488351232 := by have := h.len; omega
  have b0 := alloc_bel w (.cells #[.int .i64 0, .int .i64 0, .slice none 0 0] 52)
  rcases (by omega : 128 < n ∨ (n ≤ 128 ∧ i < 0) ∨ (n ≤ 128 ∧ 0 ≤ i ∧ (n : Int) ≤ i) ∨ (n ≤ 128 ∧ 0 ≤ i ∧ i < (n : Int))) with hw | ⟨hw, hl⟩ | ⟨hw, hl, hh⟩ | ⟨hw, hl, hh⟩
  all_goals have hwi : (n : Int) ≤ 128 ∨ 128 < (n : Int) := by omega
  · have hw2 : 128 < (n : Int) := by omega
    have HS : Hid (proveS ks i = ⟨0, 0, [], 4⟩) := by unfold Hid proveS; rw [if_pos (by omega)]
    clear hn h hw hwi
    go_enter Try.func20, Try.ntmps20
    go_wp2
    exact bodyPost_ret (v := .tuple #[.agg #[.int .i64 0, .int .i64 0, .slice none 0 0], .int .i64 4]) (by simp [results, Try.f20, go_sem]) rfl ⟨⟨none, 0, by rw [HS.out]; rfl, by rw [HS.out]; exact OK16.nil _ _⟩, b0⟩
  · have hw2 : (n : Int) ≤ 128 := by omega
    have HS : Hid (proveS ks i = ⟨0, 0, [], 2⟩) := by unfold Hid proveS; rw [if_neg (by omega), if_pos (by omega)]
    clear hn h hw hwi
    go_enter Try.func20, Try.ntmps20
    go_wp2
    exact bodyPost_ret (v := .tuple #[.agg #[.int .i64 0, .int .i64 0, .slice none 0 0], .int .i64 2]) (by simp [results, Try.f20, go_sem]) rfl ⟨⟨none, 0, by rw [HS.out]; rfl, by rw [HS.out]; exact OK16.nil _ _⟩, b0⟩
  · have hw2 : (n : Int) ≤ 128 := by omega
    have HS : Hid (proveS ks i = ⟨0, 0, [], 2⟩) := by unfold Hid proveS; rw [if_neg (by omega), if_pos (by omega)]
    clear hn h hw hwi
    go_enter Try.func20, Try.ntmps20
    go_wp2
    exact bodyPost_ret (v := .tuple #[.agg #[.int .i64 0, .int .i64 0, .slice none 0 0], .int .i64 2]) (by simp [results, Try.f20, go_sem]) rfl ⟨⟨none, 0, by rw [HS.out]; rfl, by rw [HS.out]; exact OK16.nil _ _⟩, b0⟩
  · have hw2 : (n : Int) ≤ 128 := by omega
    have HS : Hid (proveS ks i = ⟨n, i, pathS ks i.toNat, 0⟩) := by unfold Hid proveS; rw [if_neg (by omega), if_neg (by omega), hn]
    obtain ⟨j, rfl⟩ : ∃ j : Nat, i = (j : Int) := ⟨i.toNat, by omega⟩
    rw [Int.toNat_natCast] at HS
    have HP : Hid (∀ W, Below w.heap.size w W → Calls Try.prog 70 #[.slice A n c, .int .i64 (j : Int)] W fun e w' => (∃ A' c', e = .returned (.agg #[.int .i64 (n : Int), .int .i64 (j : Int), .slice A' (pathS ks j).length c']) ∧ OK16 W.heap.size w' A' c' (pathS ks j)) ∧ Below W.heap.size W w') := fun W hW => proof_any ks j A c W hn (by omega) (by omega) (h.below hW)
    generalize pathS ks j = P at HP HS
    obtain ⟨m, hm⟩ : ∃ m, P.length = m := ⟨_, rfl⟩
    rw [hm] at HP
    have HM := Lib.hid hm
    clear hn h hw hwi hm
    go_enter Try.func20, Try.ntmps20
    go_wp2_with (go_at_call 70; refine (HP.out _ b0).mono ?_; rintro e w1 ⟨⟨A1, c1, rfl, ho1⟩, hb1⟩; have b1 := Lib.hid (bel_on b0 hb1); have HO := Lib.hid ho1; have hz := hb1.size; obtain ⟨hc, hf⟩ := bcell hb1; clear ho1 hb1)
    have hlt : w.heap.size < w1.heap.size := by simp at hz; omega
    refine bodyPost_ret (v := .tuple #[.agg #[.int .i64 (n : Int), .int .i64 (j : Int), .slice A1 m c1], .int .i64 0]) (by simp [results, Try.f20, go_sem, hc, hf, hlt]) rfl ⟨⟨A1, c1, by rw [HS.out]; show _ = Ending.returned (.tuple #[.agg #[.int .i64 (n : Int), .int .i64 (j : Int), .slice A1 P.length c1], .int .i64 0]); rw [HM.out], by rw [HS.out]; exact (((HO.out.set_low _ _ (by simp)).set_low _ _ (by simp)).set_low _ _ (by simp)).le_ (by simp)⟩, ?_⟩
    exact ((b1.out.setCell (by simp) _).setCell (by simp) _).setCell (by simp) _

set_option maxHeartbeats 1000000 in
theorem refProve_any (ks : List (List UInt8)) (i : Int) (A : Option Addr) (c : Nat) (w : World) {n : Nat} (hn : ks.length = n) (h : KR w A c ks) :
    Calls Try.prog 21 #[.slice A n c, .int .i64 i] w fun e w' => PrEnd w.heap.size (proveS ks i).a (proveS ks i).b (proveS ks i).P (proveS ks i).e e w' ∧ Below w.heap.size w w' := by
  have hnl : (n : Int) ≤ 140737488351232 := by have := h.len; omega
  have b0 := alloc_bel w (.cells #[.int .i64 0, .int .i64 0, .slice none 0 0] 52)
  rcases (by omega : 128 < n ∨ (n ≤ 128 ∧ i < 0) ∨ (n ≤ 128 ∧ 0 ≤ i ∧ (n : Int) ≤ i) ∨ (n ≤ 128 ∧ 0 ≤ i ∧ i < (n : Int))) with hw | ⟨hw, hl⟩ | ⟨hw, hl, hh⟩ | ⟨hw, hl, hh⟩
  all_goals have hwi : (n : Int) ≤ 128 ∨ 128 < (n : Int) := by omega
  · have hw2 : 128 < (n : Int) := by omega
    have HS : Hid (proveS ks i = ⟨0, 0, [], 4⟩) := by unfold Hid proveS; rw [if_pos (by omega)]
    clear hn h hw hwi
    go_enter Try.func21, Try.ntmps21
    go_wp2
    exact bodyPost_ret (v := .tuple #[.agg #[.int .i64 0, .int .i64 0, .slice none 0 0], .int .i64 4]) (by simp [results, Try.f21, go_sem]) rfl ⟨⟨none, 0, by rw [HS.out]; rfl, by rw [HS.out]; exact OK16.nil _ _⟩, b0⟩
  · have hw2 : (n : Int) ≤ 128 := by omega
    have HS : Hid (proveS ks i = ⟨0, 0, [], 2⟩) := by unfold Hid proveS; rw [if_neg (by omega), if_pos (by omega)]
    clear hn h hw hwi
    go_enter Try.func21, Try.ntmps21
    go_wp2
    exact bodyPost_ret (v := .tuple #[.agg #[.int .i64 0, .int .i64 0, .slice none 0 0], .int .i64 2]) (by simp [results, Try.f21, go_sem]) rfl ⟨⟨none, 0, by rw [HS.out]; rfl, by rw [HS.out]; exact OK16.nil _ _⟩, b0⟩
  · have hw2 : (n : Int) ≤ 128 := by omega
    have HS : Hid (proveS ks i = ⟨0, 0, [], 2⟩) := by unfold Hid proveS; rw [if_neg (by omega), if_pos (by omega)]
    clear hn h hw hwi
    go_enter Try.func21, Try.ntmps21
    go_wp2
    exact bodyPost_ret (v := .tuple #[.agg #[.int .i64 0, .int .i64 0, .slice none 0 0], .int .i64 2]) (by simp [results, Try.f21, go_sem]) rfl ⟨⟨none, 0, by rw [HS.out]; rfl, by rw [HS.out]; exact OK16.nil _ _⟩, b0⟩
  · have hw2 : (n : Int) ≤ 128 := by omega
    have HS : Hid (proveS ks i = ⟨n, i, pathS ks i.toNat, 0⟩) := by unfold Hid proveS; rw [if_neg (by omega), if_neg (by omega), hn]
    obtain ⟨j, rfl⟩ : ∃ j : Nat, i = (j : Int) := ⟨i.toNat, by omega⟩
    rw [Int.toNat_natCast] at HS
    have HP : Hid (∀ W, Below w.heap.size w W → Calls Try.prog 71 #[.slice A n c, .int .i64 (j : Int)] W fun e w' => (∃ A' c', e = .returned (.agg #[.int .i64 (n : Int), .int .i64 (j : Int), .slice A' (pathS ks j).length c']) ∧ OK16 W.heap.size w' A' c' (pathS ks j)) ∧ Below W.heap.size W w') := fun W hW => refProofOf_any ks j A c W hn (by omega) (by omega) (h.below hW)
    generalize pathS ks j = P at HP HS
    obtain ⟨m, hm⟩ : ∃ m, P.length = m := ⟨_, rfl⟩
    rw [hm] at HP
    have HM := Lib.hid hm
    clear hn h hw hwi hm
    go_enter Try.func21, Try.ntmps21
    go_wp2_with (go_at_call 71; refine (HP.out _ b0).mono ?_; rintro e w1 ⟨⟨A1, c1, rfl, ho1⟩, hb1⟩; have b1 := Lib.hid (bel_on b0 hb1); have HO := Lib.hid ho1; have hz := hb1.size; obtain ⟨hc, hf⟩ := bcell hb1; clear ho1 hb1)
    have hlt : w.heap.size < w1.heap.size := by simp at hz; omega
    refine bodyPost_ret (v := .tuple #[.agg #[.int .i64 (n : Int), .int .i64 (j : Int), .slice A1 m c1], .int .i64 0]) (by simp [results, Try.f21, go_sem, hc, hf, hlt]) rfl ⟨⟨A1, c1, by rw [HS.out]; show _ = Ending.returned (.tuple #[.agg #[.int .i64 (n : Int), .int .i64 (j : Int), .slice A1 P.length c1], .int .i64 0]); rw [HM.out], by rw [HS.out]; exact (((HO.out.set_low _ _ (by simp)).set_low _ _ (by simp)).set_low _ _ (by simp)).le_ (by simp)⟩, ?_⟩
    exact ((b1.out.setCell (by simp) _).setCell (by simp) _).setCell (by simp) _

set_option maxHeartbeats 1000000 in
theorem refProveGrowth_any (ks : List (List UInt8)) (i : Int) (A : Option Addr) (c : Nat) (w : World) {n : Nat} (hn : ks.length = n) (h : KR w A c ks) :
    Calls Try.prog 24 #[.slice A n c, .int .i64 i] w fun e w' => PrEnd w.heap.size (growthS ks i).a (growthS ks i).b (growthS ks i).P (growthS ks i).e e w' ∧ Below w.heap.size w w' := by
  have hnl : (n : Int) ≤ 140737488351232 := by have := h.len; omega
  have b0 := alloc_bel w (.cells #[.int .i64 0, .int .i64 0, .slice none 0 0] 59)
  rcases (by omega : 128 < n ∨ (n ≤ 128 ∧ i < 1) ∨ (n ≤ 128 ∧ 1 ≤ i ∧ (n : Int) < i) ∨ (n ≤ 128 ∧ 1 ≤ i ∧ i ≤ (n : Int))) with hw | ⟨hw, hl⟩ | ⟨hw, hl, hh⟩ | ⟨hw, hl, hh⟩
  all_goals have hwi : (n : Int) ≤ 128 ∨ 128 < (n : Int) := by omega
  · have hw2 : 128 < (n : Int) := by omega
    have HS : Hid (growthS ks i = ⟨0, 0, [], 4⟩) := by unfold Hid growthS; rw [if_pos (by omega)]
    clear hn h hw hwi
    go_enter Try.func24, Try.ntmps24
    go_wp2
    exact bodyPost_ret (v := .tuple #[.agg #[.int .i64 0, .int .i64 0, .slice none 0 0], .int .i64 4]) (by simp [results, Try.f24, go_sem]) rfl ⟨⟨none, 0, by rw [HS.out]; rfl, by rw [HS.out]; exact OK16.nil _ _⟩, b0⟩
  · have hw2 : (n : Int) ≤ 128 := by omega
    have HS : Hid (growthS ks i = ⟨0, 0, [], 2⟩) := by unfold Hid growthS; rw [if_neg (by omega), if_pos (by omega)]
    clear hn h hw hwi
    go_enter Try.func24, Try.ntmps24
    go_wp2
    exact bodyPost_ret (v := .tuple #[.agg #[.int .i64 0, .int .i64 0, .slice none 0 0], .int .i64 2]) (by simp [results, Try.f24, go_sem]) rfl ⟨⟨none, 0, by rw [HS.out]; rfl, by rw [HS.out]; exact OK16.nil _ _⟩, b0⟩
  · have hw2 : (n : Int) ≤ 128 := by omega
    have HS : Hid (growthS ks i = ⟨0, 0, [], 2⟩) := by unfold Hid growthS; rw [if_neg (by omega), if_pos (by omega)]
    clear hn h hw hwi
    go_enter Try.func24, Try.ntmps24
    go_wp2
    exact bodyPost_ret (v := .tuple #[.agg #[.int .i64 0, .int .i64 0, .slice none 0 0], .int .i64 2]) (by simp [results, Try.f24, go_sem]) rfl ⟨⟨none, 0, by rw [HS.out]; rfl, by rw [HS.out]; exact OK16.nil _ _⟩, b0⟩
  · have hw2 : (n : Int) ≤ 128 := by omega
    have HS : Hid (growthS ks i = ⟨i, n, partS ks i.toNat true, 0⟩) := by unfold Hid growthS; rw [if_neg (by omega), if_neg (by omega), hn]
    obtain ⟨j, rfl⟩ : ∃ j : Nat, i = (j : Int) := ⟨i.toNat, by omega⟩
    rw [Int.toNat_natCast] at HS
    have HP : Hid (∀ W, Below w.heap.size w W → Calls Try.prog 74 #[.slice A n c, .int .i64 (j : Int), .bool true] W fun e w' => (∃ A' c', e = .returned (.slice A' (partS ks j true).length c') ∧ OK16 W.heap.size w' A' c' (partS ks j true)) ∧ Below W.heap.size W w') := fun W hW => refPart_any n ks j true A c W hn (by omega) (by omega) (by omega) (h.below hW)
    generalize partS ks j true = P at HP HS
    obtain ⟨m, hm⟩ : ∃ m, P.length = m := ⟨_, rfl⟩
    rw [hm] at HP
    have HM := Lib.hid hm
    clear hn h hw hwi hm
    go_enter Try.func24, Try.ntmps24
    go_wp2_with (go_at_call 74; refine (HP.out _ b0).mono ?_; rintro e w1 ⟨⟨A1, c1, rfl, ho1⟩, hb1⟩; have b1 := Lib.hid (bel_on b0 hb1); have HO := Lib.hid ho1; have hz := hb1.size; obtain ⟨hc, hf⟩ := bcell hb1; clear ho1 hb1)
    have hlt : w.heap.size < w1.heap.size := by simp at hz; omega
    refine bodyPost_ret (v := .tuple #[.agg #[.int .i64 (j : Int), .int .i64 (n : Int), .slice A1 m c1], .int .i64 0]) (by simp [results, Try.f24, go_sem, hc, hf, hlt]) rfl ⟨⟨A1, c1, by rw [HS.out]; show _ = Ending.returned (.tuple #[.agg #[.int .i64 (j : Int), .int .i64 (n : Int), .slice A1 P.length c1], .int .i64 0]); rw [HM.out], by rw [HS.out]; exact (((HO.out.set_low _ _ (by simp)).set_low _ _ (by simp)).set_low _ _ (by simp)).le_ (by simp)⟩, ?_⟩
    exact ((b1.out.setCell (by simp) _).setCell (by simp) _).setCell (by simp) _
end Go.Proofs.Ytinpiodfpnbllaa

/- Texts that are taken: the variable, the rows, their bytes. -/
namespace Go.Proofs.Ytinpiodfpnbllaa
open Go.RowKit
set_option linter.unusedVariables false
set_option linter.unusedSimpArgs false
attribute [local go_sem] run_storeCells_key run_storeCells_new

theorem Blk.ne_own {w : World} {g : Nat} {t : TypeId} {cs : Array Value} (h : Blk w g t cs) {B' : Nat} {t' : TypeId} {s' n' : Nat} {v' : Value} {xs' : List Value} (h' : w.ownsRow B' t' s' v' n' xs') (hne : t ≠ t') : some g ≠ v'.ownBlock := by
  rcases h'.2 with ⟨rfl, _⟩ | ⟨g', cap', cur', rfl, _, hh', _⟩
  · simp [Value.ownBlock]
  · intro e
    have : g = g' := by simpa [Value.ownBlock] using e
    subst this
    unfold Blk at h
    rw [h] at hh'
    injection hh' with hh'
    injection hh' with _ ht
    exact hne ht
theorem Blk.grown {w w' : World} {g : Nat} {t : TypeId} {cs : Array Value} (h : Blk w g t cs) {B' : Nat} {t' : TypeId} {s' n' : Nat} {v' : Value} {xs' : List Value} (h' : w.ownsRow B' t' s' v' n' xs') (hne : t ≠ t') (hg : w.grownBy w' v'.ownBlock) : Blk w' g t cs :=
  (hg.block g h.lt (h.ne_own h' hne)).trans h
theorem own_block_apart {w w' : World} {B : Nat} {t t' : TypeId} {s n g : Nat} {v : Value} {xs : List Value} {cs : Array Value} (h : w.ownsRow B t s v n xs) (hb : Blk w g t' cs) (hne : t' ≠ t) (hk : ∀ k, k ≠ g → w'.heap[k]? = w.heap[k]?) : w'.ownsRow B t s v n xs :=
  ⟨h.1, h.2.elim Or.inl fun ⟨g', cap, cur, hv, hB, hh, r⟩ => Or.inr ⟨g', cap, cur, hv, hB, (hk g' fun e => by
    subst e
    unfold Blk at hb
    rw [hb] at hh
    injection hh with hh
    injection hh with _ ht
    exact hne ht).trans hh, r⟩⟩
theorem own_set_apart {w : World} {B : Nat} {t t' : TypeId} {s n g : Nat} {v : Value} {xs : List Value} {cs : Array Value} (h : w.ownsRow B t s v n xs) (hb : Blk w g t' cs) (hne : t' ≠ t) (i : Nat) (u : Value) : (w.setCell ⟨g, i, none⟩ u).ownsRow B t s v n xs :=
  own_block_apart h hb hne fun k hk => Below.heap_setCell w _ u k hk
theorem own_row_apart {w : World} {B : Nat} {t t' : TypeId} {s n g : Nat} {v : Value} {xs : List Value} {cs : Array Value} (h : w.ownsRow B t s v n xs) (hb : Blk w g t' cs) (hne : t' ≠ t) (cs' : Array Value) : (w.setRow g cs').ownsRow B t s v n xs :=
  own_block_apart h hb hne fun k hk => setRow_other w g k cs' hk
theorem src_one (w : World) (v : Value) (t : TypeId) : Src (w.alloc (.cells #[v] t)) 1 (some ⟨w.heap.size, 0, none⟩) 1 [v] := by
  refine ⟨rfl, .inr ⟨_, rfl, fun j u hu => ?_⟩⟩
  rw [Addr.add_lit, Nat.zero_add, (Blk.new w t #[v]).cell j]
  simpa using hu

/-- Keys in memory stay as they are. -/
def KeepT (w w' : World) : Prop := ∀ k cs, Blk w k 23 cs → Blk w' k 23 cs
theorem KeepT.refl (w : World) : KeepT w w := fun _ _ h => h
theorem KeepT.trans {w1 w2 w3 : World} (h : KeepT w1 w2) (h' : KeepT w2 w3) : KeepT w1 w3 := fun k cs hk => h' k cs (h k cs hk)
theorem KeepT.of_below {w w' : World} (h : Below w.heap.size w w') : KeepT w w' := fun k cs hk => hk.below' h
theorem KeepT.grown {w w' : World} {B' : Nat} {t' : TypeId} {s' n' : Nat} {v' : Value} {xs' : List Value} (h' : w.ownsRow B' t' s' v' n' xs') (hne : 23 ≠ t') (hg : w.grownBy w' v'.ownBlock) : KeepT w w' := fun k cs hk => hk.grown h' hne hg
theorem KeepT.set {w : World} {g i : Nat} {t : TypeId} {cs : Array Value} (hb : Blk w g t cs) (hne : t ≠ 23) (u : Value) : KeepT w (w.setCell ⟨g, i, none⟩ u) := fun k cs' hk => by
  refine hk.far ?_ u
  intro e
  subst e
  unfold Blk at hb hk
  rw [hk] at hb
  injection hb with hb
  injection hb with _ ht
  exact hne ht.symm
theorem KeepT.rowAbove {w w1 : World} (h : KeepT w w1) {g : Nat} (hg : w.heap.size ≤ g) (cs : Array Value) : KeepT w (w1.setRow g cs) := fun k cs' hk => (setRow_other w1 g k cs (by have := hk.lt; omega)).trans (h k cs' hk)
theorem KeepT.row {w w1 : World} (h : KeepT w w1) (cs : Array Value) : KeepT w (w1.setRow w.heap.size cs) := fun k cs' hk => (setRow_other w1 w.heap.size k cs (by have := hk.lt; omega)).trans (h k cs' hk)
/-- Texts that were taken. -/
def TX (B : Nat) (w : World) (g : Nat) (ts : List (List UInt8)) : Prop :=
  ∃ A c rs, rs.map BRow.l = ts ∧ B ≤ g ∧ Blk w g 119 #[.slice A rs.length c] ∧ RO B w A c rs ∧ (∀ r ∈ rs, OB B w r.A r.c r.l) ∧ ∀ t ∈ ts, t.length ≤ 1000
theorem TX.below {B : Nat} {w w' : World} {g : Nat} {ts : List (List UInt8)} (h : TX B w g ts) (hb : Below w.heap.size w w') : TX B w' g ts := by
  obtain ⟨A, c, rs, h1, h2, h3, h4, h5, h6⟩ := h
  exact ⟨A, c, rs, h1, h2, h3.below' hb, h4.below hb, fun r hr => (h5 r hr).below hb, h6⟩
theorem TX.lt {B : Nat} {w : World} {g : Nat} {ts : List (List UInt8)} (h : TX B w g ts) : g < w.heap.size := by
  obtain ⟨A, c, rs, h1, h2, h3, h4, h5, h6⟩ := h
  exact h3.lt
theorem TX.le {B : Nat} {w : World} {g : Nat} {ts : List (List UInt8)} (h : TX B w g ts) : B ≤ g := by
  obtain ⟨A, c, rs, h1, h2, h3, h4, h5, h6⟩ := h
  exact h2
theorem TX.row {B : Nat} {w : World} {g : Nat} {ts : List (List UInt8)} (h : TX B w g ts) {g' : Nat} {cs : Array Value} (hb : Blk w g' 23 cs) (cs' : Array Value) : TX B (w.setRow g' cs') g ts := by
  obtain ⟨A, c, rs, h1, h2, h3, h4, h5, h6⟩ := h
  refine ⟨A, c, rs, h1, h2, ?_, own_row_apart h4 hb (by decide) cs', fun r hr => own_row_apart (h5 r hr) hb (by decide) cs', h6⟩
  refine (setRow_other w g' g cs' fun e => ?_).trans h3
  subst e
  unfold Blk at hb h3
  rw [hb] at h3
  injection h3 with h3
  injection h3 with _ ht
  exact absurd ht (by decide)

theorem wpList_append_text (w : World) {ops : Array Oper} {rest : List Oper} {o : Oper} {a : Act} {Q : Exit → Act → World → Prop} (hgd : o.guard = none) (s x : Operand)
    (ho : o.op = .call { callee := .builtin .append, args := #[s, x], argTypes := #[119, 119] })
    (B : Nat) (A : Option Addr) (n c : Nat) (rs : List BRow) (hn : rs.length = n) (hs : a.eval s = .slice A n c) (hown : RO B w A c rs)
    (r : BRow) (X : Option Addr) (d : Nat) (hx : a.eval x = .slice X 1 d) (hsrc : Src w 1 X 1 [r.v])
    (hlen : n ≤ 1000000) (hB : B ≤ w.heap.size)
    (h : ∀ A' c' w', RO B w' A' c' (rs ++ [r]) → Below B w w' → w.grownBy w' (Value.ownBlock (.slice A n c)) → wpList Try.prog ops Q rest (a.put o.dst (.slice A' (n + 1) c')) w') : wpList Try.prog ops Q (o :: rest) a w := by
  obtain ⟨i0, hi, hz0, hz1, hz2⟩ := info_parts rows_info
  subst hn
  refine wpList_append_src w hgd s x 119 ho B 24 i0 (.slice none 0 0) 1 24 Try.underlying119 hi hz0 hz1 hz2 rfl (by omega) A rs.length c (rs.map BRow.v) hs hown X 1 d [r.v] hx hsrc (by intro u hu; rw [List.mem_singleton.1 hu]; rfl)
    (by simp only [maxLen]; omega) (by omega) hB ?_
  intro A' c' w' h1 h2 h3
  refine h A' c' w' ?_ (grown_below (Below.refl _ _) hown h2 hB (Nat.le_refl _)) h2
  unfold RO
  rw [List.map_append, List.length_append]
  exact h1

theorem taken {B : Nat} {w : World} {g : Nat} {A A0 : Option Addr} {c c0 q0 q : Nat} {rs : List BRow} {ts : List (List UInt8)} (hro : RO B w A c rs) (hob : ∀ r ∈ rs, OB B w r.A r.c r.l) (hb : Blk w g 119 #[.slice A0 q0 c0]) (hts : rs.map BRow.l = ts) (hq : rs.length = q) (hg : B ≤ g) (hbd : ∀ t ∈ ts, t.length ≤ 1000) :
    TX B (w.setCell ⟨g, 0, none⟩ (.slice A q c)) g ts := by
  subst hq
  refine ⟨A, c, rs, hts, hg, ?_, own_set_apart hro hb (by decide) _ _, fun r hr => own_set_apart (hob r hr) hb (by decide) _ _, hbd⟩
  have := hb.set_ 0 (.slice A rs.length c)
  simpa using this

set_option maxHeartbeats 1000000 in
set_option maxRecDepth 100000 in
theorem take_any {B : Nat} (ts : List (List UInt8)) (t : List UInt8) (X : Option Addr) (d g : Nat) (w : World) {m : Nat} (hm : t.length = m) (h : TX B w g ts) (hx : OB B w X d t) (hl : m ≤ 1000) (hts : ts.length ≤ 100000) :
    Calls Try.prog 65 #[.pointer (some ⟨g, 0, none⟩), .slice X m d] w fun e w' => e = .returned (.agg (cellsB (digS t)).toArray) ∧ TX B w' g (ts ++ [t]) ∧ KeepT w w' ∧ Below B w w' := by
  have hglt := h.lt
  have hBg := h.le
  obtain ⟨A, c, rs, hrs, _, hblk, hro, hob, hbd⟩ := h
  have HBD : Hid (∀ x ∈ ts ++ [t], x.length ≤ 1000) := fun x hx => by
    rcases List.mem_append.1 hx with hx | hx
    · exact hbd x hx
    · rw [List.mem_singleton.1 hx, hm]; exact hl
  obtain ⟨q, hq⟩ : ∃ q, rs.length = q := ⟨_, rfl⟩
  have hqb : q ≤ 100000 := by rw [← hq, ← List.length_map (f := BRow.l), hrs]; exact hts
  rw [hq] at hblk
  have HZ := Lib.hid zero16
  have HQ := Lib.hid hq
  have hc0 : w.cell? ⟨g, 0, none⟩ = some (.slice A q c) := hblk.cell 0
  have HKEY := Lib.hid (Blk.new w 23 (cellsB zeroK).toArray)
  have b0 := alloc_bel w (.cells (cellsB zeroK).toArray 23)
  have b1 : Below w.heap.size w ((w.alloc (.cells (cellsB zeroK).toArray 23)).alloc (.cells #[.slice X m d] 24)) := alloc2_bel w _ _
  have HSRC := Lib.hid (src_one (w.alloc (.cells (cellsB zeroK).toArray 23)) (.slice X m d) 24)
  have HKEY1 := Lib.hid (HKEY.out.alloc (.cells #[.slice X m d] 24))
  have HRO := Lib.hid (hro.below b1)
  have HBLK := Lib.hid (hblk.below' b1)
  have HOB : Hid (∀ r ∈ rs ++ [⟨X, d, t⟩], OB B ((w.alloc (.cells (cellsB zeroK).toArray 23)).alloc (.cells #[.slice X m d] 24)) r.A r.c r.l) := fun r hr => by
    rcases List.mem_append.1 hr with hr | hr
    · exact (hob r hr).below b1
    · rw [List.mem_singleton.1 hr]; exact hx.below b1
  have HRS : Hid ((rs ++ [(⟨X, d, t⟩ : BRow)]).map BRow.l = ts ++ [t]) := by unfold Hid; rw [List.map_append, hrs]; rfl
  have HM := Lib.hid hm
  have HDL : Hid ((digS t).length = 16) := digS_length _
  have HD : Hid (∀ A c W, BR W A c t → Calls Try.prog 122 #[.slice A m c] W fun e w' => e = .returned (.agg (cellsB (digS t)).toArray) ∧ Below W.heap.size W w') := fun A c W hW => digest_any t A c W hm hW (by omega)
  generalize digS t = dg at HDL HD ⊢
  have hdc : (cellsB dg).length = 16 := by rw [cellsB_length, HDL.out]
  have hall := all16 dg
  have hBg' : B ≤ w.heap.size := by omega
  clear hrs hq hblk hro hob hx hm hbd
  go_enter Try.func65, Try.ntmps65
  go_wp2_with (first
    | (at_builtin; rw [HZ.out]; refine wpList_append_text _ rfl (.tmp 8) (.tmp 10) rfl B A q c rs HQ.out rfl HRO.out ⟨X, d, t⟩ (some ⟨w.heap.size + 1, 0, none⟩) 1 rfl (by rw [show BRow.v ⟨X, d, t⟩ = .slice X m d from by unfold BRow.v; rw [HM.out]]; have := HSRC.out; rw [World.size_alloc] at this; exact this) (by omega) (by have := HKEY1.out.lt; omega) ?_; intro A5 c5 w5 hro5 hbl5 hg5; rw [← HQ.out] at hg5; have K5 := Lib.hid ((KeepT.of_below b1).trans (KeepT.grown HRO.out (by decide) hg5)); have HBLK5 := Lib.hid (HBLK.out.grown HRO.out (by decide) hg5); have HKEY5 := Lib.hid (HKEY1.out.grown HRO.out (by decide) hg5); have HOB5 : Hid (∀ r ∈ rs ++ [(⟨X, d, t⟩ : BRow)], OB B w5 r.A r.c r.l) := (fun r hr => own_kept (HOB.out r hr) HRO.out (by decide) hg5); have HRO5 := Lib.hid hro5; have hc5 : w5.cell? ⟨g, 0, none⟩ = some (.slice A q c) := HBLK5.out.cell 0; have hf5 : w5.frozen? ⟨g, 0, none⟩ = false := HBLK5.out.frozen 0; have B5 : Hid (Below B w w5) := ((b1.mono hBg').trans hbl5); clear hro5 hg5 hbl5)
    | (go_at_call 122; have ho6 := own_set_apart (HOB5.out ⟨X, d, t⟩ (by simp)) HBLK5.out (by decide) 0 (.slice A5 (q + 1) c5); rw [HM.out] at ho6; refine (HD.out X d _ (OB.br (by unfold OB; rw [HM.out]; exact ho6) (by rw [HM.out]; omega))).mono ?_; rintro e w7 ⟨rfl, hb7⟩; have TX7 : Hid (TX B w7 g (ts ++ [t])) := (taken HRO5.out HOB5.out HBLK5.out HRS.out (by rw [List.length_append, HQ.out]; rfl) hBg HBD.out).below hb7; have KEY7 := (HKEY5.out.far (p := ⟨g, 0, none⟩) (by simp; omega) (.slice A5 (q + 1) c5)).below' hb7; have hr7 : (rowAt w7 w.heap.size).size = 16 := (by rw [KEY7.row]; rfl); have hf7 := KEY7.free; have B6 : Below B w (w5.setCell ⟨g, 0, none⟩ (.slice A5 (q + 1) c5)) := B5.out.setCell hBg _; have B7 := Lib.hid (B6.trans (hb7.mono (by have := B5.out.size; simp; omega))); have HKEY7 := Lib.hid KEY7; have K7 := Lib.hid ((K5.out.trans (KeepT.set (i := 0) HBLK5.out (by decide) (.slice A5 (q + 1) c5))).trans (KeepT.of_below hb7)); clear KEY7 ho6))
  exact bodyPost_ret (results_cell_row rfl _ _ w.heap.size _ _ (0, 0) _ rfl (HKEY7.out.setRow (cellsB dg).toArray) under_key rfl (cellsB_size _ HDL.out)) rfl ⟨rfl, TX7.out.row HKEY7.out _, K7.out.row _, below_setRow B7.out hBg' _⟩
end Go.Proofs.Ytinpiodfpnbllaa

/- The texts of a list: the program's. -/
namespace Go.Proofs.Ytinpiodfpnbllaa
open Go.RowKit
set_option linter.unusedVariables false
set_option linter.unusedSimpArgs false
attribute [local go_sem] run_storeCells_key run_storeCells_new

set_option maxHeartbeats 1000000 in
set_option maxRecDepth 100000 in
theorem takeLeaf_any {B : Nat} (ts : List (List UInt8)) (k : List UInt8) (g : Nat) (w : World) (hk : k.length = 16) (h : TX B w g ts) (hts : ts.length ≤ 100000) :
    Calls Try.prog 64 #[.agg (cellsB k).toArray, .pointer (some ⟨g, 0, none⟩)] w fun e w' => e = .returned (.agg (cellsB (digS (leafT k))).toArray) ∧ TX B w' g (ts ++ [leafT k]) ∧ KeepT w w' ∧ Below B w w' := by
  have HZ := Lib.hid zero16
  have HK := Lib.hid hk
  have hBg : B ≤ w.heap.size := by have := h.lt; have := h.le; omega
  have b0 := alloc2_bel w (.cells (cellsB k).toArray 23) (.cells (cellsB zeroK).toArray 23)
  have B0 := Lib.hid (blk_b0 w (cellsB k).toArray 23 (.cells (cellsB zeroK).toArray 23))
  have B1 := Lib.hid (blk_b1 w (.cells (cellsB k).toArray 23) (cellsB zeroK).toArray 23)
  have HTX := Lib.hid (h.below b0)
  have HLT : Hid (∀ W, Calls Try.prog 66 #[.agg (cellsB k).toArray] W fun e w' => (∃ A c, e = .returned (.slice A 17 c) ∧ OB W.heap.size w' A c (leafT k)) ∧ Below W.heap.size W w') := fun W => leafText_any k W hk
  have HLL : Hid ((leafT k).length = 17) := by unfold Hid leafT; simp [hk]
  generalize leafT k = t at HLT HLL ⊢
  have HTK : Hid (∀ X d W, TX B W g ts → OB B W X d t → Calls Try.prog 65 #[.pointer (some ⟨g, 0, none⟩), .slice X 17 d] W fun e w' => e = .returned (.agg (cellsB (digS t)).toArray) ∧ TX B w' g (ts ++ [t]) ∧ KeepT W w' ∧ Below B W w') := fun X d W h1 h2 => take_any ts t X d g W HLL.out h1 h2 (by omega) hts
  have HDL : Hid ((digS t).length = 16) := digS_length _
  generalize digS t = dg at HDL HTK ⊢
  have hdc : (cellsB dg).length = 16 := by rw [cellsB_length, HDL.out]
  have hall := all16 dg
  clear hk h
  go_enter Try.func64, Try.ntmps64
  go_wp2_with (first
    | (refine wpList_load_row rfl 23 (.tmp 2) rfl w.heap.size rfl 23 (cellsB k).toArray (0, 0) _ (by rw [HZ.out]; exact B0.out) under_key rfl (cellsB_size _ HK.out) ?_)
    | (go_at_call 66; rw [HZ.out]; refine (HLT.out _).mono ?_; rintro e w1 ⟨⟨A1, c1, rfl, ho1⟩, hb1⟩; have b1 := bel_on b0 hb1; have TX1 := Lib.hid (HTX.out.below hb1); have O1 := Lib.hid (ho1.le_ (Nat.le_trans hBg b0.size)); have Q1 := Lib.hid (B1.out.below' hb1); clear ho1 hb1)
    | (go_at_call 65; refine (HTK.out _ _ _ TX1.out O1.out).mono ?_; rintro e w2 ⟨rfl, htx2, hk2, hb2⟩; have TX2 := Lib.hid htx2; have K2 := Lib.hid ((KeepT.of_below b1).trans hk2); have Q2 := hk2 _ _ Q1.out; have b2 := Lib.hid ((b1.mono hBg).trans hb2); have hr2 : (rowAt w2 (w.heap.size + 1)).size = 16 := (by rw [Q2.row]; rfl); have hf2 := Q2.free; have HQ2 := Lib.hid Q2; clear Q2 htx2 hk2 hb2))
  exact bodyPost_ret (results_cell_row rfl _ _ (w.heap.size + 1) _ _ (0, 0) _ rfl (HQ2.out.setRow (cellsB dg).toArray) under_key rfl (cellsB_size _ HDL.out)) rfl ⟨rfl, TX2.out.row HQ2.out _, K2.out.rowAbove (by omega) _, below_setRow b2.out (by omega) _⟩

set_option maxHeartbeats 1000000 in
set_option maxRecDepth 100000 in
theorem takeNode_any {B : Nat} (ts : List (List UInt8)) (a b : List UInt8) (g : Nat) (w : World) (ha : a.length = 16) (hb : b.length = 16) (h : TX B w g ts) (hts : ts.length ≤ 100000) :
    Calls Try.prog 67 #[.agg (cellsB a).toArray, .agg (cellsB b).toArray, .pointer (some ⟨g, 0, none⟩)] w fun e w' => e = .returned (.agg (cellsB (digS (nodeT a b))).toArray) ∧ TX B w' g (ts ++ [nodeT a b]) ∧ KeepT w w' ∧ Below B w w' := by
  have HZ := Lib.hid zero16
  have HA := Lib.hid ha
  have HB := Lib.hid hb
  have hBg : B ≤ w.heap.size := by have := h.lt; have := h.le; omega
  have b0 := alloc3_bel w (.cells (cellsB a).toArray 23) (.cells (cellsB b).toArray 23) (.cells (cellsB zeroK).toArray 23)
  have B0 := Lib.hid (blk_a0 w (cellsB a).toArray 23 (.cells (cellsB b).toArray 23) (.cells (cellsB zeroK).toArray 23))
  have B1 := Lib.hid (blk_a1 w (.cells (cellsB a).toArray 23) (cellsB b).toArray 23 (.cells (cellsB zeroK).toArray 23))
  have B2 := Lib.hid (blk_a2 w (.cells (cellsB a).toArray 23) (.cells (cellsB b).toArray 23) (cellsB zeroK).toArray 23)
  have HTX := Lib.hid (h.below b0)
  have HLT : Hid (∀ W, Calls Try.prog 68 #[.agg (cellsB a).toArray, .agg (cellsB b).toArray] W fun e w' => (∃ A c, e = .returned (.slice A 33 c) ∧ OB W.heap.size w' A c (nodeT a b)) ∧ Below W.heap.size W w') := fun W => nodeText_any a b W ha hb
  have HLL : Hid ((nodeT a b).length = 33) := by unfold Hid nodeT; simp [ha, hb]
  generalize nodeT a b = t at HLT HLL ⊢
  have HTK : Hid (∀ X d W, TX B W g ts → OB B W X d t → Calls Try.prog 65 #[.pointer (some ⟨g, 0, none⟩), .slice X 33 d] W fun e w' => e = .returned (.agg (cellsB (digS t)).toArray) ∧ TX B w' g (ts ++ [t]) ∧ KeepT W w' ∧ Below B W w') := fun X d W h1 h2 => take_any ts t X d g W HLL.out h1 h2 (by omega) hts
  have HDL : Hid ((digS t).length = 16) := digS_length _
  generalize digS t = dg at HDL HTK ⊢
  have hdc : (cellsB dg).length = 16 := by rw [cellsB_length, HDL.out]
  have hall := all16 dg
  clear ha hb h
  go_enter Try.func67, Try.ntmps67
  go_wp2_with (first
    | (refine wpList_load_row rfl 23 (.tmp 3) rfl w.heap.size rfl 23 (cellsB a).toArray (0, 0) _ (by rw [HZ.out]; exact B0.out) under_key rfl (cellsB_size _ HA.out) ?_)
    | (refine wpList_load_row rfl 23 (.tmp 4) rfl (w.heap.size + 1) rfl 23 (cellsB b).toArray (0, 0) _ (by rw [HZ.out]; exact B1.out) under_key rfl (cellsB_size _ HB.out) ?_)
    | (go_at_call 68; rw [HZ.out]; refine (HLT.out _).mono ?_; rintro e w1 ⟨⟨A1, c1, rfl, ho1⟩, hb1⟩; have b1 := bel_on b0 hb1; have TX1 := Lib.hid (HTX.out.below hb1); have O1 := Lib.hid (ho1.le_ (Nat.le_trans hBg b0.size)); have Q1 := Lib.hid (B2.out.below' hb1); clear ho1 hb1)
    | (go_at_call 65; refine (HTK.out _ _ _ TX1.out O1.out).mono ?_; rintro e w2 ⟨rfl, htx2, hk2, hb2⟩; have TX2 := Lib.hid htx2; have K2 := Lib.hid ((KeepT.of_below b1).trans hk2); have Q2 := hk2 _ _ Q1.out; have b2 := Lib.hid ((b1.mono hBg).trans hb2); have hr2 : (rowAt w2 (w.heap.size + 1 + 1)).size = 16 := (by rw [Q2.row]; rfl); have hf2 := Q2.free; have HQ2 := Lib.hid Q2; clear Q2 htx2 hk2 hb2))
  exact bodyPost_ret (results_cell_row rfl _ _ (w.heap.size + 1 + 1) _ _ (0, 0) _ rfl (HQ2.out.setRow (cellsB dg).toArray) under_key rfl (cellsB_size _ HDL.out)) rfl ⟨rfl, TX2.out.row HQ2.out _, K2.out.rowAbove (by omega) _, below_setRow b2.out (by omega) _⟩

theorem textsS_le : ∀ (n : Nat) (l : List (List UInt8)), l.length = n → 1 ≤ n → (textsS l).length ≤ 2 * n := by
  intro n
  induction n using Nat.strongRecOn with
  | _ n ih =>
    intro l hl h1
    rcases Nat.lt_or_ge n 2 with h2 | h2
    · obtain rfl : n = 1 := by omega
      obtain ⟨x, rfl⟩ := List.length_eq_one_iff.1 hl
      rw [textsS_one]; simp
    have s1 := splitS_lt h2
    have s2 := splitS_pos n
    suffices hs : (textsS l).length + 1 ≤ 2 * n by omega
    have : ∀ (n : Nat) (l : List (List UInt8)), l.length = n → 1 ≤ n → (textsS l).length + 1 ≤ 2 * n := by
      intro n
      induction n using Nat.strongRecOn with
      | _ n ih =>
        intro l hl h1
        rcases Nat.lt_or_ge n 2 with h2 | h2
        · obtain rfl : n = 1 := by omega
          obtain ⟨x, rfl⟩ := List.length_eq_one_iff.1 hl
          rw [textsS_one]; simp
        have s1 := splitS_lt h2
        have s2 := splitS_pos n
        rw [textsS_node (by omega), hl]
        have a := ih (splitS n) s1 (l.take (splitS n)) (by rw [List.length_take]; omega) s2
        have b := ih (n - splitS n) (by omega) (l.drop (splitS n)) (by rw [List.length_drop]; omega) (by omega)
        simp only [List.length_append, List.length_cons, List.length_nil]
        omega
    exact this n l hl h1

set_option maxHeartbeats 1000000 in
set_option maxRecDepth 100000 in
theorem textFold_one (w0 : World) (k : List UInt8) (A : Option Addr) (c g : Nat) (ts : List (List UInt8)) (w : World) (h : KR w0 A c [k]) (hw : Below w0.heap.size w0 w) (ht : TX w0.heap.size w g ts) (hts : ts.length ≤ 100000) :
    Calls Try.prog 63 #[.slice A 1 c, .func (.func 64) #[] #[.pointer (some ⟨g, 0, none⟩)], .func (.func 67) #[] #[.pointer (some ⟨g, 0, none⟩)]] w fun e w' => e = .returned (.agg (cellsB (rootS [k])).toArray) ∧ TX w0.heap.size w' g (ts ++ textsS [k]) ∧ KeepT w w' ∧ Below w0.heap.size w w' := by
  have hk : k.length = 16 := h.2 k (by simp)
  obtain ⟨b, off, rfl, hb, hr⟩ := (h.below hw).first
  have HK := Lib.hid hk
  have HZ := Lib.hid zero16
  have b0 := alloc_bel w (.cells (cellsB zeroK).toArray 23)
  have B0 := Lib.hid (Blk.new w 23 (cellsB zeroK).toArray)
  have HR := Lib.hid (range_below hr b0)
  have HTX := Lib.hid (ht.below b0)
  have hws : w0.heap.size ≤ w.heap.size := hw.size
  have HD : Hid (∀ W, TX w0.heap.size W g ts → Calls Try.prog 64 #[.agg (cellsB k).toArray, .pointer (some ⟨g, 0, none⟩)] W fun e w' => e = .returned (.agg (cellsB (rootS [k])).toArray) ∧ TX w0.heap.size w' g (ts ++ textsS [k]) ∧ KeepT W w' ∧ Below w0.heap.size W w') := fun W hW => by rw [rootS_one, textsS_one]; exact takeLeaf_any ts k g W hk hW hts
  have HDL : Hid ((rootS [k]).length = 16) := rootS_length _
  generalize rootS [k] = d at HD HDL
  generalize textsS [k] = tk at HD
  have hdc : (cellsB d).length = 16 := by rw [cellsB_length, HDL.out]
  have hall := all16 d
  clear hk hr h ht
  go_enter Try.func63, Try.ntmps63
  go_wp2_with (first
    | (rw [HZ.out]; refine wpList_load_mid rfl 23 (.tmp 13) rfl b off rfl (cellsB k) _ HR.out under_key rfl (key_info HK.out) ?_)
    | (go_at_call 64; refine (HD.out _ HTX.out).mono ?_; rintro e w2 ⟨rfl, htx2, hk2, hb2⟩; have TX2 := Lib.hid htx2; have K2 := Lib.hid ((KeepT.of_below b0).trans hk2); have Q2 := hk2 _ _ B0.out; have b2 := Lib.hid ((b0.mono hws).trans hb2); have hr2 : (rowAt w2 w.heap.size).size = 16 := (by rw [Q2.row]; rfl); have hf2 := Q2.free; have HQ2 := Lib.hid Q2; clear Q2 htx2 hk2 hb2))
  exact bodyPost_ret (results_cell_row rfl _ _ w.heap.size _ _ (0, 0) _ rfl (HQ2.out.setRow (cellsB d).toArray) under_key rfl (cellsB_size _ HDL.out)) rfl ⟨rfl, TX2.out.row HQ2.out _, K2.out.row _, below_setRow b2.out hws _⟩

set_option maxHeartbeats 2000000 in
set_option maxRecDepth 100000 in
theorem textFold_any (w0 : World) (g n : Nat) : ∀ (ks : List (List UInt8)) (A : Option Addr) (c : Nat) (ts : List (List UInt8)) (w : World), ks.length = n → 1 ≤ n → n ≤ 1000 → KR w0 A c ks → Below w0.heap.size w0 w → TX w0.heap.size w g ts → ts.length + 2 * n ≤ 50000 →
    Calls Try.prog 63 #[.slice A n c, .func (.func 64) #[] #[.pointer (some ⟨g, 0, none⟩)], .func (.func 67) #[] #[.pointer (some ⟨g, 0, none⟩)]] w fun e w' => e = .returned (.agg (cellsB (rootS ks)).toArray) ∧ TX w0.heap.size w' g (ts ++ textsS ks) ∧ KeepT w w' ∧ Below w0.heap.size w w' := by
  induction n using Nat.strongRecOn with
  | _ n ih =>
    intro ks A c ts w hn h1n hbig h hw ht hts
    rcases Nat.lt_or_ge n 2 with h2 | h2
    · obtain rfl : n = 1 := by omega
      obtain ⟨k, rfl⟩ := List.length_eq_one_iff.1 hn
      exact textFold_one w0 k A c g ts w h hw ht (by omega)
    have hs1 := splitS_pos n
    have hs2 := splitS_lt h2
    have hcl : n ≤ c := by have := Rd.le h.1; omega
    have hni : (2 : Int) ≤ (n : Int) := by omega
    have hnb : (n : Int) ≤ 1000 := by omega
    have hne0 : ¬ (n : Int) = 0 := by omega
    have hne1 : ¬ (n : Int) = 1 := by omega
    have hws : w0.heap.size ≤ w.heap.size := hw.size
    have HSP : Hid (∀ W, Calls Try.prog 72 #[.int .i64 (n : Int)] W fun e w' => e = .returned (.int .i64 ((splitS n : Nat) : Int)) ∧ W = w') := fun W => split_any n W h2 hbig
    have HNODE : Hid (rootS ks = digS (nodeT (rootS (ks.take (splitS n))) (rootS (ks.drop (splitS n))))) := by have := rootS_node (l := ks) (by omega); rw [hn] at this; exact this
    have HTEXT : Hid (textsS ks = textsS (ks.take (splitS n)) ++ (textsS (ks.drop (splitS n)) ++ [nodeT (rootS (ks.take (splitS n))) (rootS (ks.drop (splitS n)))])) := by have := textsS_node (l := ks) (by omega); rw [hn] at this; exact this
    have hT1 := textsS_le (splitS n) (ks.take (splitS n)) (by rw [List.length_take]; omega) hs1
    have hT2 := textsS_le (n - splitS n) (ks.drop (splitS n)) (by rw [List.length_drop]; omega) (by omega)
    have HLO : Hid (∀ W, Below w0.heap.size w0 W → TX w0.heap.size W g ts → Calls Try.prog 63 #[.slice A (splitS n) c, .func (.func 64) #[] #[.pointer (some ⟨g, 0, none⟩)], .func (.func 67) #[] #[.pointer (some ⟨g, 0, none⟩)]] W fun e w' => e = .returned (.agg (cellsB (rootS (ks.take (splitS n)))).toArray) ∧ TX w0.heap.size w' g (ts ++ textsS (ks.take (splitS n))) ∧ KeepT W w' ∧ Below w0.heap.size W w') := fun W hW hT => ih (splitS n) hs2 _ A c ts W (by rw [List.length_take]; omega) (by omega) (by omega) (h.take _ (by omega)) hW hT (by omega)
    have HHI : Hid (∀ W, Below w0.heap.size w0 W → TX w0.heap.size W g (ts ++ textsS (ks.take (splitS n))) → Calls Try.prog 63 #[.slice (dropK A (splitS n) c) (n - splitS n) (c - splitS n), .func (.func 64) #[] #[.pointer (some ⟨g, 0, none⟩)], .func (.func 67) #[] #[.pointer (some ⟨g, 0, none⟩)]] W fun e w' => e = .returned (.agg (cellsB (rootS (ks.drop (splitS n)))).toArray) ∧ TX w0.heap.size w' g ((ts ++ textsS (ks.take (splitS n))) ++ textsS (ks.drop (splitS n))) ∧ KeepT W w' ∧ Below w0.heap.size W w') := fun W hW hT => ih (n - splitS n) (by omega) _ _ _ _ W (by rw [List.length_drop]; omega) (by omega) (by omega) (h.drop _ (by omega)) hW hT (by rw [List.length_append]; omega)
    have hL1 := rootS_length (ks.take (splitS n))
    have hL2 := rootS_length (ks.drop (splitS n))
    have hsl1 := fun W => slice_keys_to W A n c (splitS n) (by omega)
    have hsl2 := fun W => slice_keys_from W A n c (splitS n) (by omega)
    generalize splitS n = k at HSP HNODE HTEXT HLO HHI hL1 hL2 hsl1 hsl2 hs1 hs2 hT1 hT2
    generalize rootS (ks.take k) = r1 at HNODE HTEXT HLO hL1
    generalize rootS (ks.drop k) = r2 at HNODE HTEXT HHI hL2
    generalize textsS (ks.take k) = x1 at HTEXT HLO HHI hT1
    generalize textsS (ks.drop k) = x2 at HTEXT HHI hT2
    have HD : Hid (∀ W, TX w0.heap.size W g ((ts ++ x1) ++ x2) → Calls Try.prog 67 #[.agg (cellsB r1).toArray, .agg (cellsB r2).toArray, .pointer (some ⟨g, 0, none⟩)] W fun e w' => e = .returned (.agg (cellsB (digS (nodeT r1 r2))).toArray) ∧ TX w0.heap.size w' g (((ts ++ x1) ++ x2) ++ [nodeT r1 r2]) ∧ KeepT W w' ∧ Below w0.heap.size W w') := fun W hW => takeNode_any _ r1 r2 g W hL1 hL2 hW (by simp only [List.length_append]; omega)
    have HDL : Hid ((digS (nodeT r1 r2)).length = 16) := digS_length _
    generalize digS (nodeT r1 r2) = d at HD HDL HNODE
    generalize nodeT r1 r2 = nt at HD HTEXT
    have HZ := Lib.hid zero16
    have b0 := alloc_bel w (.cells (cellsB zeroK).toArray 23)
    have B0 := Lib.hid (Blk.new w 23 (cellsB zeroK).toArray)
    have HTX := Lib.hid (ht.below b0)
    have HW := Lib.hid hw
    clear ih h hn hbig hL1 hL2 ht hts hT1 hT2 hw
    go_enter Try.func63, Try.ntmps63
    go_wp2_with (go_at_call 72; rw [HZ.out]; refine (HSP.out _).mono ?_; rintro e w1 ⟨rfl, rfl⟩)
    obtain ⟨W0, hW0⟩ : ∃ W : World, W = w.alloc (.cells (cellsB zeroK).toArray 23) := ⟨_, rfl⟩
    rw [← hW0] at b0 B0 HTX ⊢
    clear hW0
    refine wp_region_noPanic ?_
    refine wp_region_held_drew (S := fun _ => True) (by kernel_rfl) trivial (fun hS => ?_)
    refine hd_take 0 (_) rfl rfl (by kernel_rfl) (by kernel_rfl) (by kernel_rfl) (fun _ _ _ h => h) (fun w _ => by go_simp <;> rfl) hS ?_
    refine hd_take 1 (_) rfl rfl (by kernel_rfl) (by kernel_rfl) (by kernel_rfl) (fun _ _ _ h => h) (fun w _ => by go_simp <;> rfl) hS ?_
    refine hd_take 2 (_) rfl rfl (by kernel_rfl) (by kernel_rfl) (by kernel_rfl) (fun _ _ _ h => h) (fun w _ => by go_simp <;> rfl) hS ?_
    refine hd_take 4 (_) rfl rfl (by kernel_rfl) (by kernel_rfl) (by kernel_rfl) (fun _ _ _ h => h) (fun w _ => by go_simp <;> rfl) hS ?_
    refine hd_take 5 (_) rfl rfl (by kernel_rfl) (by kernel_rfl) (by kernel_rfl) (fun _ _ _ h => h) (fun w _ => by go_simp <;> rfl) hS ?_
    refine hd_take 7 (_) rfl rfl (by kernel_rfl) (by kernel_rfl) (by kernel_rfl) (fun _ _ _ h => h) (fun w _ => by go_simp <;> rfl) hS ?_
    refine hd_take 8 (_) rfl rfl (by kernel_rfl) (by kernel_rfl) (by kernel_rfl) (fun _ _ _ h => h) (fun w _ => by go_simp <;> rfl) hS ?_
    refine hd_take 10 (_) rfl rfl (by kernel_rfl) (by kernel_rfl) (by kernel_rfl) (fun _ _ _ h => h) (fun w _ => by go_simp <;> rfl) hS ?_
    refine hd_take 11 (_) rfl rfl (by kernel_rfl) (by kernel_rfl) (by kernel_rfl) (fun _ _ _ h => h) (fun w _ => by go_simp <;> rfl) hS ?_
    simp only [List.getElem_toArray, List.getElem_cons_succ, List.getElem_cons_zero, Act.put, List.setIfInBounds_toArray, List.set_cons_zero, List.set_cons_succ]
    refine hd_take 3 (_) rfl rfl (by kernel_rfl) (by kernel_rfl) (by kernel_rfl) (fun _ _ _ h => h) (fun w _ => by go_simp <;> rfl) hS ?_
    refine hd_take 9 (_) rfl rfl (by kernel_rfl) (by kernel_rfl) (by kernel_rfl) (fun _ _ _ h => h) (fun w _ => by go_simp <;> rfl) hS ?_
    simp only [List.getElem_toArray, List.getElem_cons_succ, List.getElem_cons_zero, Act.put, List.setIfInBounds_toArray, List.set_cons_zero, List.set_cons_succ]
    have bw : Below w0.heap.size w W0.drew := (b0.mono hws).trans (Below.refl _ _).drew
    have k0 : KeepT w W0.drew := (KeepT.of_below b0).trans (KeepT.of_below (Below.refl _ _).drew)
    refine hd_calls 6 63 #[.slice A k c, .func (.func 64) #[] #[.pointer (some ⟨g, 0, none⟩)], .func (.func 67) #[] #[.pointer (some ⟨g, 0, none⟩)]] rfl rfl (by kernel_rfl) (by go_simp) ((HLO.out _ (HW.out.trans bw) (HTX.out.below (Below.refl _ _).drew)).mono ?_)
    rintro e w3 ⟨rfl, ht3, hk3, hb3⟩
    have b3 := bw.trans hb3
    refine ⟨_, rfl, trivial, ?_⟩
    refine hd_calls 12 63 #[.slice (dropK A k c) (n - k) (c - k), .func (.func 64) #[] #[.pointer (some ⟨g, 0, none⟩)], .func (.func 67) #[] #[.pointer (some ⟨g, 0, none⟩)]] rfl rfl (by kernel_rfl) (by go_simp) ((HHI.out _ (HW.out.trans b3) ht3).mono ?_)
    rintro e w4 ⟨rfl, ht4, hk4, hb4⟩
    have b4 := b3.trans hb4
    refine ⟨_, rfl, trivial, ?_⟩
    simp only [List.getElem_toArray, List.getElem_cons_succ, List.getElem_cons_zero, Act.put, List.setIfInBounds_toArray, List.set_cons_zero, List.set_cons_succ]
    refine hd_calls 13 67 #[.agg (cellsB r1).toArray, .agg (cellsB r2).toArray, .pointer (some ⟨g, 0, none⟩)] rfl rfl (by kernel_rfl) (by go_simp) ((HD.out _ ht4).mono ?_)
    rintro e w6 ⟨rfl, ht6, hk6, hb6⟩
    have b6 := b4.trans hb6
    refine ⟨_, rfl, trivial, ?_⟩
    simp only [List.getElem_toArray, List.getElem_cons_succ, List.getElem_cons_zero, Act.put, List.setIfInBounds_toArray, List.set_cons_zero, List.set_cons_succ]
    have Q6 := hk6 _ _ (hk4 _ _ (hk3 _ _ B0.out.drew))
    have K6 := ((k0.trans hk3).trans hk4).trans hk6
    refine hd_store 14 w.heap.size (cellsB d).toArray _ _ _ rfl rfl rfl (by kernel_rfl) rfl rfl Q6 (cellsB_size _ HDL.out) (by rw [List.size_toArray, List.size_toArray, cellsB_length, cellsB_length, HDL.out]; rfl) (all_oneCell_toArray (cells_one d)) trivial ?_
    refine wpAnyH_done (by kernel_rfl) (NoPanic.normal ?_) _
    simp only [List.getElem_toArray, List.getElem_cons_succ, List.getElem_cons_zero, Act.put, List.setIfInBounds_toArray, List.set_cons_zero, List.set_cons_succ]
    have HT6 := Lib.hid (ht6.row Q6 (cellsB d).toArray)
    have HK6 := Lib.hid (K6.row (cellsB d).toArray)
    have HB6 := Lib.hid (below_setRow b6 hws (cellsB d).toArray)
    have HQ6 := Lib.hid (Q6.setRow (cellsB d).toArray)
    clear ht6 ht4 ht3 hk3 hk4 hk6 K6 k0
    go_wp2_with fail
    exact bodyPost_ret (results_cell_row rfl _ _ w.heap.size _ _ (0, 0) _ rfl HQ6.out under_key rfl (cellsB_size _ HDL.out)) rfl ⟨by rw [HNODE.out], by rw [HTEXT.out]; have := HT6.out; simpa only [List.append_assoc] using this, HK6.out, HB6.out⟩
end Go.Proofs.Ytinpiodfpnbllaa

/- Proofs and growths in plain words: which fit, what roots and texts they give, and what follows if they are accepted. -/
namespace Go.Proofs.Ytinpiodfpnbllaa
set_option linter.unusedVariables false

/-- How many entries a path has. -/
def stepsS (n i : Nat) : Nat :=
  if h : n ≤ 1 then 0
  else
    have := splitS_lt (n := n) (by omega)
    have := splitS_pos n
    if i < splitS n then 1 + stepsS (splitS n) i else 1 + stepsS (n - splitS n) (i - splitS n)
termination_by n
decreasing_by all_goals omega
theorem stepsS_one {n : Nat} (h : n ≤ 1) (i : Nat) : stepsS n i = 0 := by rw [stepsS, dif_pos h]
theorem stepsS_low {n i : Nat} (h : 2 ≤ n) (hi : i < splitS n) : stepsS n i = 1 + stepsS (splitS n) i := by
  rw [stepsS, dif_neg (by omega)]
  exact if_pos hi
theorem stepsS_high {n i : Nat} (h : 2 ≤ n) (hi : ¬ i < splitS n) : stepsS n i = 1 + stepsS (n - splitS n) (i - splitS n) := by
  rw [stepsS, dif_neg (by omega)]
  exact if_neg hi

def lastK (l : List (List UInt8)) : List UInt8 := l.getD (l.length - 1) []
def initK (l : List (List UInt8)) : List (List UInt8) := l.take (l.length - 1)
theorem initK_length (l : List (List UInt8)) : (initK l).length = l.length - 1 := by simp [initK]
theorem lastK_snoc (l : List (List UInt8)) (x : List UInt8) : lastK (l ++ [x]) = x := by simp [lastK]
theorem initK_snoc (l : List (List UInt8)) (x : List UInt8) : initK (l ++ [x]) = l := by simp [initK]
theorem lastK_mem {l : List (List UInt8)} (h : 0 < l.length) : lastK l ∈ l := by
  unfold lastK
  rw [List.getD_eq_getElem?_getD, List.getElem?_eq_getElem (by omega)]
  exact List.getElem_mem _
theorem initK_mem {l : List (List UInt8)} {x : List UInt8} (h : x ∈ initK l) : x ∈ l := List.mem_of_mem_take h

/-- The root that a path gives for a leaf, and the texts whose digests are taken. -/
def climbS (leaf : List UInt8) (n i : Nat) (path : List (List UInt8)) : List UInt8 × List (List UInt8) :=
  if h : n ≤ 1 then (digS (leafT leaf), [leafT leaf])
  else
    have := splitS_lt (n := n) (by omega)
    have := splitS_pos n
    if i < splitS n then
      (digS (nodeT (climbS leaf (splitS n) i (initK path)).1 (lastK path)), (climbS leaf (splitS n) i (initK path)).2 ++ [nodeT (climbS leaf (splitS n) i (initK path)).1 (lastK path)])
    else
      (digS (nodeT (lastK path) (climbS leaf (n - splitS n) (i - splitS n) (initK path)).1), (climbS leaf (n - splitS n) (i - splitS n) (initK path)).2 ++ [nodeT (lastK path) (climbS leaf (n - splitS n) (i - splitS n) (initK path)).1])
termination_by n
decreasing_by all_goals omega
theorem climbS_one (leaf : List UInt8) {n : Nat} (h : n ≤ 1) (i : Nat) (path : List (List UInt8)) : climbS leaf n i path = (digS (leafT leaf), [leafT leaf]) := by rw [climbS, dif_pos h]
theorem climbS_low (leaf : List UInt8) {n i : Nat} (path : List (List UInt8)) (h : 2 ≤ n) (hi : i < splitS n) :
    climbS leaf n i path = (digS (nodeT (climbS leaf (splitS n) i (initK path)).1 (lastK path)), (climbS leaf (splitS n) i (initK path)).2 ++ [nodeT (climbS leaf (splitS n) i (initK path)).1 (lastK path)]) := by
  rw [climbS, dif_neg (by omega)]
  exact if_pos hi
theorem climbS_high (leaf : List UInt8) {n i : Nat} (path : List (List UInt8)) (h : 2 ≤ n) (hi : ¬ i < splitS n) :
    climbS leaf n i path = (digS (nodeT (lastK path) (climbS leaf (n - splitS n) (i - splitS n) (initK path)).1), (climbS leaf (n - splitS n) (i - splitS n) (initK path)).2 ++ [nodeT (lastK path) (climbS leaf (n - splitS n) (i - splitS n) (initK path)).1]) := by
  rw [climbS, dif_neg (by omega)]
  exact if_neg hi
theorem climbS_length (leaf : List UInt8) (n i : Nat) (path : List (List UInt8)) : (climbS leaf n i path).1.length = 16 := by
  rw [climbS]
  split
  · exact digS_length _
  · dsimp only
    split <;> exact digS_length _

/-- How many entries a growth has. -/
def partsS (n m : Nat) (whole : Bool) : Nat :=
  if h : n ≤ 1 ∨ m = n then (if whole then 0 else 1)
  else
    have := splitS_lt (n := n) (by omega)
    have := splitS_pos n
    if m ≤ splitS n then 1 + partsS (splitS n) m whole else 1 + partsS (n - splitS n) (m - splitS n) false
termination_by n
decreasing_by all_goals omega
theorem partsS_end (n : Nat) (whole : Bool) : partsS n n whole = if whole then 0 else 1 := by rw [partsS, dif_pos (.inr rfl)]
theorem partsS_low {n m : Nat} (whole : Bool) (h : 2 ≤ n) (hm : m ≠ n) (hi : m ≤ splitS n) : partsS n m whole = 1 + partsS (splitS n) m whole := by
  rw [partsS, dif_neg (by omega)]
  exact if_pos hi
theorem partsS_high {n m : Nat} (whole : Bool) (h : 2 ≤ n) (hm : m ≠ n) (hi : ¬ m ≤ splitS n) : partsS n m whole = 1 + partsS (n - splitS n) (m - splitS n) false := by
  rw [partsS, dif_neg (by omega)]
  exact if_neg hi

/-- The two roots that a growth path gives for an old root, and the texts whose digests are taken. -/
def growS (before : List UInt8) (n m : Nat) (path : List (List UInt8)) : List UInt8 × List UInt8 × List (List UInt8) :=
  if h : n ≤ 1 ∨ m = n then (path.headD before, path.headD before, [])
  else
    have := splitS_lt (n := n) (by omega)
    have := splitS_pos n
    if m ≤ splitS n then
      ((growS before (splitS n) m (initK path)).1, digS (nodeT (growS before (splitS n) m (initK path)).2.1 (lastK path)),
        (growS before (splitS n) m (initK path)).2.2 ++ [nodeT (growS before (splitS n) m (initK path)).2.1 (lastK path)])
    else
      (digS (nodeT (lastK path) (growS before (n - splitS n) (m - splitS n) (initK path)).1), digS (nodeT (lastK path) (growS before (n - splitS n) (m - splitS n) (initK path)).2.1),
        (growS before (n - splitS n) (m - splitS n) (initK path)).2.2 ++ [nodeT (lastK path) (growS before (n - splitS n) (m - splitS n) (initK path)).1, nodeT (lastK path) (growS before (n - splitS n) (m - splitS n) (initK path)).2.1])
termination_by n
decreasing_by all_goals omega
theorem growS_end (before : List UInt8) (n : Nat) (path : List (List UInt8)) : growS before n n path = (path.headD before, path.headD before, []) := by rw [growS, dif_pos (.inr rfl)]
theorem growS_low (before : List UInt8) {n m : Nat} (path : List (List UInt8)) (h : 2 ≤ n) (hm : m ≠ n) (hi : m ≤ splitS n) :
    growS before n m path = ((growS before (splitS n) m (initK path)).1, digS (nodeT (growS before (splitS n) m (initK path)).2.1 (lastK path)),
        (growS before (splitS n) m (initK path)).2.2 ++ [nodeT (growS before (splitS n) m (initK path)).2.1 (lastK path)]) := by
  rw [growS, dif_neg (by omega)]
  exact if_pos hi
theorem growS_high (before : List UInt8) {n m : Nat} (path : List (List UInt8)) (h : 2 ≤ n) (hm : m ≠ n) (hi : ¬ m ≤ splitS n) :
    growS before n m path = (digS (nodeT (lastK path) (growS before (n - splitS n) (m - splitS n) (initK path)).1), digS (nodeT (lastK path) (growS before (n - splitS n) (m - splitS n) (initK path)).2.1),
        (growS before (n - splitS n) (m - splitS n) (initK path)).2.2 ++ [nodeT (lastK path) (growS before (n - splitS n) (m - splitS n) (initK path)).1, nodeT (lastK path) (growS before (n - splitS n) (m - splitS n) (initK path)).2.1]) := by
  rw [growS, dif_neg (by omega)]
  exact if_neg hi
def All16 (l : List (List UInt8)) : Prop := ∀ k ∈ l, k.length = 16
theorem All16.init {l : List (List UInt8)} (h : All16 l) : All16 (initK l) := fun k hk => h k (initK_mem hk)
theorem All16.last {l : List (List UInt8)} (h : All16 l) (hl : 0 < l.length) : (lastK l).length = 16 := h _ (lastK_mem hl)
theorem headD_length {l : List (List UInt8)} {b : List UInt8} (h : All16 l) (hb : b.length = 16) : (l.headD b).length = 16 := by
  cases l with
  | nil => exact hb
  | cons x l => exact h x List.mem_cons_self
theorem growS_length {before : List UInt8} (hb : before.length = 16) : ∀ (n m : Nat) {path : List (List UInt8)}, All16 path → (growS before n m path).1.length = 16 ∧ (growS before n m path).2.1.length = 16 := by
  intro n
  induction n using Nat.strongRecOn with
  | _ n ih =>
    intro m path hp
    rw [growS]
    split
    · exact ⟨headD_length hp hb, headD_length hp hb⟩
    · rename_i h
      have h1 := splitS_lt (n := n) (by omega)
      have h2 := splitS_pos n
      dsimp only
      split
      · exact ⟨(ih _ (by omega) _ hp.init).1, digS_length _⟩
      · exact ⟨digS_length _, digS_length _⟩

/-- Two different texts have the same digest. -/
def Clash (ts : List (List UInt8)) : Prop := ∃ s ∈ ts, ∃ t ∈ ts, s ≠ t ∧ digS s = digS t
theorem Clash.mono {a b : List (List UInt8)} (h : Clash a) (hs : ∀ x ∈ a, x ∈ b) : Clash b := by
  obtain ⟨s, h1, t, h2, h3⟩ := h
  exact ⟨s, hs _ h1, t, hs _ h2, h3⟩
theorem same_or {ts : List (List UInt8)} {s t : List UInt8} (hs : s ∈ ts) (ht : t ∈ ts) (h : digS s = digS t) : s = t ∨ Clash ts := by
  by_cases e : s = t
  · exact .inl e
  · exact .inr ⟨s, hs, t, ht, e, h⟩
theorem nodeT_inj {a b c d : List UInt8} (h : nodeT a b = nodeT c d) (hl : a.length = c.length) : a = c ∧ b = d := by
  unfold nodeT at h
  injection h with _ h
  exact List.append_inj h hl
theorem leafT_inj {a b : List UInt8} (h : leafT a = leafT b) : a = b := by
  unfold leafT at h
  injection h
theorem texts_root {l : List (List UInt8)} (h : 2 ≤ l.length) : nodeT (rootS (l.take (splitS l.length))) (rootS (l.drop (splitS l.length))) ∈ textsS l := by rw [textsS_node h]; simp
theorem texts_take {l : List (List UInt8)} (h : 2 ≤ l.length) : ∀ x ∈ textsS (l.take (splitS l.length)), x ∈ textsS l := fun x hx => by rw [textsS_node h]; simp [hx]
theorem texts_drop {l : List (List UInt8)} (h : 2 ≤ l.length) : ∀ x ∈ textsS (l.drop (splitS l.length)), x ∈ textsS l := fun x hx => by rw [textsS_node h]; simp [hx]

/-- Two lists of one length with one root are the same, or two texts have one digest. -/
theorem root_same : ∀ (n : Nat) (a b : List (List UInt8)), a.length = n → b.length = n → rootS a = rootS b → a = b ∨ Clash (textsS a ++ textsS b) := by
  intro n
  induction n using Nat.strongRecOn with
  | _ n ih =>
    intro a b ha hb h
    rcases Nat.lt_or_ge n 2 with h2 | h2
    · rcases Nat.lt_or_ge n 1 with h1 | h1
      · obtain rfl : n = 0 := by omega
        rw [List.eq_nil_of_length_eq_zero ha, List.eq_nil_of_length_eq_zero hb]
        exact .inl rfl
      · obtain rfl : n = 1 := by omega
        obtain ⟨x, rfl⟩ := List.length_eq_one_iff.1 ha
        obtain ⟨y, rfl⟩ := List.length_eq_one_iff.1 hb
        rw [rootS_one, rootS_one] at h
        rcases same_or (ts := textsS [x] ++ textsS [y]) (by rw [textsS_one]; simp) (by rw [textsS_one y]; simp) h with h | h
        · rw [leafT_inj h]; exact .inl rfl
        · exact .inr h
    have s1 := splitS_lt h2
    have s2 := splitS_pos n
    rw [rootS_node (by omega), rootS_node (l := b) (by omega)] at h
    rcases same_or (ts := textsS a ++ textsS b) (List.mem_append_left _ (texts_root (by omega))) (List.mem_append_right _ (texts_root (by omega))) h with h | h
    · obtain ⟨e1, e2⟩ := nodeT_inj h (by rw [rootS_length, rootS_length])
      have ta := texts_take (l := a) (by omega)
      have tb := texts_take (l := b) (by omega)
      have da := texts_drop (l := a) (by omega)
      have db := texts_drop (l := b) (by omega)
      rw [ha] at e1 e2 ta da
      rw [hb] at e1 e2 tb db
      rcases ih (splitS n) s1 _ _ (by rw [List.length_take]; omega) (by rw [List.length_take]; omega) e1 with f1 | f1
      · rcases ih (n - splitS n) (by omega) _ _ (by rw [List.length_drop]; omega) (by rw [List.length_drop]; omega) e2 with f2 | f2
        · left
          rw [← List.take_append_drop (splitS n) a, f1, f2, List.take_append_drop]
        · exact .inr (f2.mono fun x hx => by rcases List.mem_append.1 hx with hx | hx; exact List.mem_append_left _ (da x hx); exact List.mem_append_right _ (db x hx))
      · exact .inr (f1.mono fun x hx => by rcases List.mem_append.1 hx with hx | hx; exact List.mem_append_left _ (ta x hx); exact List.mem_append_right _ (tb x hx))
    · exact .inr h

theorem pathS_steps : ∀ (n : Nat) (l : List (List UInt8)) (i : Nat), l.length = n → (pathS l i).length = stepsS n i := by
  intro n
  induction n using Nat.strongRecOn with
  | _ n ih =>
    intro l i hl
    rcases Nat.lt_or_ge n 2 with h2 | h2
    · rw [pathS_one (by omega), stepsS_one (by omega)]; rfl
    have s1 := splitS_lt h2
    have s2 := splitS_pos n
    by_cases hi : i < splitS n
    · rw [pathS_low (by omega) (by rw [hl]; exact hi), stepsS_low h2 hi, List.length_append, hl, ih (splitS n) s1 _ _ (by rw [List.length_take]; omega)]
      simp only [List.length_cons, List.length_nil]; omega
    · rw [pathS_high (by omega) (by rw [hl]; exact hi), stepsS_high h2 hi, List.length_append, hl, ih (n - splitS n) (by omega) _ _ (by rw [List.length_drop]; omega)]
      simp only [List.length_cons, List.length_nil]; omega

/-- Each leaf is proved. -/
theorem climb_path : ∀ (n : Nat) (l : List (List UInt8)) (i : Nat), l.length = n → i < n → (climbS (l.getD i []) n i (pathS l i)).1 = rootS l := by
  intro n
  induction n using Nat.strongRecOn with
  | _ n ih =>
    intro l i hl hi
    rcases Nat.lt_or_ge n 2 with h2 | h2
    · obtain rfl : n = 1 := by omega
      obtain ⟨x, rfl⟩ := List.length_eq_one_iff.1 hl
      obtain rfl : i = 0 := by omega
      rw [climbS_one _ (by omega), rootS_one]; rfl
    have s1 := splitS_lt h2
    have s2 := splitS_pos n
    by_cases hk : i < splitS n
    · have := ih (splitS n) s1 (l.take (splitS n)) i (by rw [List.length_take]; omega) hk
      rw [climbS_low _ _ h2 hk, pathS_low (by omega) (by rw [hl]; exact hk), lastK_snoc, initK_snoc, hl]
      have e : (l.take (splitS n)).getD i [] = l.getD i [] := by simp [List.getD_eq_getElem?_getD, hk]
      rw [← e, this, rootS_node (l := l) (by omega), hl]
    · have := ih (n - splitS n) (by omega) (l.drop (splitS n)) (i - splitS n) (by rw [List.length_drop]; omega) (by omega)
      rw [climbS_high _ _ h2 hk, pathS_high (by omega) (by rw [hl]; exact hk), lastK_snoc, initK_snoc, hl]
      have e : (l.drop (splitS n)).getD (i - splitS n) [] = l.getD i [] := by simp only [List.getD_eq_getElem?_getD, List.getElem?_drop]; rw [show splitS n + (i - splitS n) = i from by omega]
      rw [← e, this, rootS_node (l := l) (by omega), hl]

/-- What is accepted is true, or two texts have one digest. -/
theorem climb_true : ∀ (n : Nat) (l : List (List UInt8)) (leaf : List UInt8) (i : Nat) (path : List (List UInt8)), l.length = n → i < n → path.length = stepsS n i → All16 path →
    (climbS leaf n i path).1 = rootS l → l.getD i [] = leaf ∨ Clash (textsS l ++ (climbS leaf n i path).2) := by
  intro n
  induction n using Nat.strongRecOn with
  | _ n ih =>
    intro l leaf i path hl hi hp h16 h
    rcases Nat.lt_or_ge n 2 with h2 | h2
    · obtain rfl : n = 1 := by omega
      obtain ⟨x, rfl⟩ := List.length_eq_one_iff.1 hl
      obtain rfl : i = 0 := by omega
      rw [climbS_one _ (by omega)] at h ⊢
      rw [rootS_one] at h
      rcases same_or (ts := textsS [x] ++ [leafT leaf]) (by simp) (by rw [textsS_one]; simp) h with h | h
      · rw [leafT_inj h]; exact .inl rfl
      · exact .inr h
    have s1 := splitS_lt h2
    have s2 := splitS_pos n
    have t0 := texts_root (l := l) (by omega)
    have t1 := texts_take (l := l) (by omega)
    have t2 := texts_drop (l := l) (by omega)
    rw [rootS_node (by omega)] at h
    rw [hl] at h t0 t1 t2
    by_cases hk : i < splitS n
    · rw [stepsS_low h2 hk] at hp
      rw [climbS_low _ _ h2 hk] at h ⊢
      have IH := ih (splitS n) s1 (l.take (splitS n)) leaf i (initK path) (by rw [List.length_take]; omega) hk (by rw [initK_length]; omega) h16.init
      have e : (l.take (splitS n)).getD i [] = l.getD i [] := by simp [List.getD_eq_getElem?_getD, hk]
      rw [e] at IH
      have hlen := climbS_length leaf (splitS n) i (initK path)
      generalize climbS leaf (splitS n) i (initK path) = r at *
      dsimp only at h ⊢
      rcases same_or (ts := textsS l ++ (r.2 ++ [nodeT r.1 (lastK path)])) (by simp) (List.mem_append_left _ t0) h with h | h
      · obtain ⟨e1, e2⟩ := nodeT_inj h (by rw [hlen, rootS_length])
        rcases IH e1 with f | f
        · exact .inl f
        · exact .inr (f.mono fun x hx => by rcases List.mem_append.1 hx with hx | hx; exact List.mem_append_left _ (t1 x hx); exact List.mem_append_right _ (List.mem_append_left _ hx))
      · exact .inr h
    · rw [stepsS_high h2 hk] at hp
      rw [climbS_high _ _ h2 hk] at h ⊢
      have IH := ih (n - splitS n) (by omega) (l.drop (splitS n)) leaf (i - splitS n) (initK path) (by rw [List.length_drop]; omega) (by omega) (by rw [initK_length]; omega) h16.init
      have e : (l.drop (splitS n)).getD (i - splitS n) [] = l.getD i [] := by simp only [List.getD_eq_getElem?_getD, List.getElem?_drop]; rw [show splitS n + (i - splitS n) = i from by omega]
      rw [e] at IH
      have hlast := h16.last (l := path) (by omega)
      generalize climbS leaf (n - splitS n) (i - splitS n) (initK path) = r at *
      dsimp only at h ⊢
      rcases same_or (ts := textsS l ++ (r.2 ++ [nodeT (lastK path) r.1])) (by simp) (List.mem_append_left _ t0) h with h | h
      · obtain ⟨e1, e2⟩ := nodeT_inj h (by rw [hlast, rootS_length])
        rcases IH e2 with f | f
        · exact .inl f
        · exact .inr (f.mono fun x hx => by rcases List.mem_append.1 hx with hx | hx; exact List.mem_append_left _ (t2 x hx); exact List.mem_append_right _ (List.mem_append_left _ hx))
      · exact .inr h

theorem partS_parts : ∀ (n : Nat) (l : List (List UInt8)) (m : Nat) (wh : Bool), l.length = n → 1 ≤ m → m ≤ n → (partS l m wh).length = partsS n m wh := by
  intro n
  induction n using Nat.strongRecOn with
  | _ n ih =>
    intro l m wh hl h1 hm
    by_cases he : m = n
    · subst he
      rw [partsS_end]
      subst hl
      rw [partS_end]
      cases wh <;> rfl
    have s1 := splitS_lt (n := n) (by omega)
    have s2 := splitS_pos n
    by_cases hi : m ≤ splitS n
    · rw [partS_low _ (by omega) (by omega) (by rw [hl]; exact hi), partsS_low _ (by omega) he hi, List.length_append, hl, ih (splitS n) s1 _ _ _ (by rw [List.length_take]; omega) h1 hi]
      simp only [List.length_cons, List.length_nil]; omega
    · rw [partS_high _ (by omega) (by omega) (by rw [hl]; exact hi), partsS_high _ (by omega) he hi, List.length_append, hl, ih (n - splitS n) (by omega) _ _ _ (by rw [List.length_drop]; omega) (by omega) (by omega)]
      simp only [List.length_cons, List.length_nil]; omega

theorem split_between {n m : Nat} (h1 : splitS n < m) (h2 : m ≤ n) : splitS m = splitS n := by
  have := splitS_pos n
  have := splitS_ge (n := n) (by omega)
  exact splitS_of h1 (by unfold splitS at this; omega)

/-- The growth from each beginning is proved. -/
theorem grow_part : ∀ (n : Nat) (l : List (List UInt8)) (m : Nat) (wh : Bool) (before : List UInt8), l.length = n → 1 ≤ m → m ≤ n → (wh = true → before = rootS (l.take m)) →
    (growS before n m (partS l m wh)).1 = rootS (l.take m) ∧ (growS before n m (partS l m wh)).2.1 = rootS l := by
  intro n
  induction n using Nat.strongRecOn with
  | _ n ih =>
    intro l m wh before hl h1 hm hb
    by_cases he : m = n
    · subst he
      rw [growS_end]
      subst hl
      rw [partS_end]
      rw [List.take_length] at hb ⊢
      cases wh with
      | true => simp [hb rfl]
      | false => simp
    have h2 : 2 ≤ n := by omega
    have s1 := splitS_lt h2
    have s2 := splitS_pos n
    by_cases hi : m ≤ splitS n
    · have e : (l.take (splitS n)).take m = l.take m := by rw [List.take_take, Nat.min_eq_left hi]
      have IH := ih (splitS n) s1 (l.take (splitS n)) m wh before (by rw [List.length_take]; omega) h1 hi (by rw [e]; exact hb)
      rw [e] at IH
      rw [partS_low _ (by omega) (by omega) (by rw [hl]; exact hi), growS_low _ _ h2 he hi, lastK_snoc, initK_snoc, hl]
      dsimp only
      exact ⟨IH.1, by rw [IH.2, rootS_node (l := l) (by omega), hl]⟩
    · have IH := ih (n - splitS n) (by omega) (l.drop (splitS n)) (m - splitS n) false before (by rw [List.length_drop]; omega) (by omega) (by omega) (by simp)
      rw [partS_high _ (by omega) (by omega) (by rw [hl]; exact hi), growS_high _ _ h2 he hi, lastK_snoc, initK_snoc, hl]
      dsimp only
      have hlm : (l.take m).length = m := by rw [List.length_take]; omega
      refine ⟨?_, by rw [IH.2, rootS_node (l := l) (by omega), hl]⟩
      rw [IH.1, rootS_node (l := l.take m) (by omega), hlm, split_between (by omega) hm, List.take_take, Nat.min_eq_left (by omega), List.take_drop, show splitS n + (m - splitS n) = m from by omega]

/-- An accepted growth is true, or two texts have one digest. -/
theorem grow_true : ∀ (n : Nat) (a b : List (List UInt8)) (m : Nat) (wh : Bool) (before : List UInt8) (path : List (List UInt8)), a.length = m → b.length = n → 1 ≤ m → m ≤ n → path.length = partsS n m wh → All16 path →
    (growS before n m path).1 = rootS a → (growS before n m path).2.1 = rootS b → a = b.take m ∨ Clash (textsS a ++ (textsS b ++ (growS before n m path).2.2)) := by
  intro n
  induction n using Nat.strongRecOn with
  | _ n ih =>
    intro a b m wh before path ha hb h1 hm hp h16 hA hB
    by_cases he : m = n
    · subst he
      rw [growS_end] at hA hB
      rcases root_same m a b ha hb (by rw [← hA, ← hB]) with h | h
      · left; rw [h, ← hb, List.take_length]
      · exact .inr (h.mono fun x hx => by rcases List.mem_append.1 hx with hx | hx; exact List.mem_append_left _ hx; exact List.mem_append_right _ (List.mem_append_left _ hx))
    have h2 : 2 ≤ n := by omega
    have s1 := splitS_lt h2
    have s2 := splitS_pos n
    have t0 := texts_root (l := b) (by omega)
    have t1 := texts_take (l := b) (by omega)
    have t2 := texts_drop (l := b) (by omega)
    rw [rootS_node (l := b) (by omega)] at hB
    rw [hb] at hB t0 t1 t2
    by_cases hi : m ≤ splitS n
    · rw [partsS_low _ h2 he hi] at hp
      have e : (b.take (splitS n)).take m = b.take m := by rw [List.take_take, Nat.min_eq_left hi]
      have IH := ih (splitS n) s1 a (b.take (splitS n)) m wh before (initK path) ha (by rw [List.length_take]; omega) h1 hi (by rw [initK_length]; omega) h16.init
      rw [e] at IH
      rw [growS_low _ _ h2 he hi] at hA hB ⊢
      have hrl : path.length ≠ 0 := by omega
      obtain ⟨r, hr⟩ : ∃ r, r = growS before (splitS n) m (initK path) := ⟨_, rfl⟩
      have hlen : r.2.1.length = (rootS (b.take (splitS n))).length ∨ ¬ r.2.1.length = (rootS (b.take (splitS n))).length := Decidable.em _
      rw [← hr] at IH hA hB ⊢
      dsimp only at hA hB ⊢
      rcases same_or (ts := textsS a ++ (textsS b ++ (r.2.2 ++ [nodeT r.2.1 (lastK path)]))) (by simp) (List.mem_append_right _ (List.mem_append_left _ t0)) hB with h | h
      · have hll := h16.last (l := path) (by omega)
        have hle : r.2.1.length = (rootS (b.take (splitS n))).length := by
          have := congrArg List.length h
          simp only [nodeT, List.length_cons, List.length_append, hll, rootS_length] at this
          rw [rootS_length]; omega
        obtain ⟨e1, e2⟩ := nodeT_inj h hle
        rcases IH hA e1 with f | f
        · exact .inl f
        · refine .inr (f.mono fun x hx => ?_)
          rcases List.mem_append.1 hx with hx | hx
          · exact List.mem_append_left _ hx
          · refine List.mem_append_right _ ?_
            rcases List.mem_append.1 hx with hx | hx
            · exact List.mem_append_left _ (t1 x hx)
            · exact List.mem_append_right _ (List.mem_append_left _ hx)
      · exact .inr h
    · rw [partsS_high _ h2 he hi] at hp
      have sm := split_between (n := n) (m := m) (by omega) hm
      have u0 := texts_root (l := a) (by omega)
      have u1 := texts_take (l := a) (by omega)
      have u2 := texts_drop (l := a) (by omega)
      rw [rootS_node (l := a) (by omega)] at hA
      rw [ha, sm] at hA u0 u1 u2
      have e : (b.drop (splitS n)).take (m - splitS n) = (b.take m).drop (splitS n) := by rw [List.take_drop, show splitS n + (m - splitS n) = m from by omega]
      have IH := ih (n - splitS n) (by omega) (a.drop (splitS n)) (b.drop (splitS n)) (m - splitS n) false before (initK path) (by rw [List.length_drop]; omega) (by rw [List.length_drop]; omega) (by omega) (by omega) (by rw [initK_length]; omega) h16.init
      rw [e] at IH
      rw [growS_high _ _ h2 he hi] at hA hB ⊢
      obtain ⟨r, hr⟩ : ∃ r, r = growS before (n - splitS n) (m - splitS n) (initK path) := ⟨_, rfl⟩
      rw [← hr] at IH hA hB ⊢
      dsimp only at hA hB ⊢
      have hll := h16.last (l := path) (by omega)
      rcases same_or (ts := textsS a ++ (textsS b ++ (r.2.2 ++ [nodeT (lastK path) r.1, nodeT (lastK path) r.2.1]))) (by simp) (List.mem_append_right _ (List.mem_append_left _ t0)) hB with hB | h
      · rcases same_or (ts := textsS a ++ (textsS b ++ (r.2.2 ++ [nodeT (lastK path) r.1, nodeT (lastK path) r.2.1]))) (by simp) (List.mem_append_left _ u0) hA with hA | h
        · obtain ⟨e1, e2⟩ := nodeT_inj hB (by rw [hll, rootS_length])
          obtain ⟨e3, e4⟩ := nodeT_inj hA (by rw [hll, rootS_length])
          rcases root_same (splitS n) (a.take (splitS n)) (b.take (splitS n)) (by rw [List.length_take]; omega) (by rw [List.length_take]; omega) (e3.symm.trans e1) with f | f
          · rcases IH e4 e2 with g | g
            · left
              rw [← List.take_append_drop (splitS n) a, f, g]
              have : b.take (splitS n) = (b.take m).take (splitS n) := by rw [List.take_take, Nat.min_eq_left (by omega)]
              rw [this, List.take_append_drop]
            · refine .inr (g.mono fun x hx => ?_)
              rcases List.mem_append.1 hx with hx | hx
              · exact List.mem_append_left _ (u2 x hx)
              · refine List.mem_append_right _ ?_
                rcases List.mem_append.1 hx with hx | hx
                · exact List.mem_append_left _ (t2 x hx)
                · exact List.mem_append_right _ (List.mem_append_left _ hx)
          · refine .inr (f.mono fun x hx => ?_)
            rcases List.mem_append.1 hx with hx | hx
            · exact List.mem_append_left _ (u1 x hx)
            · exact List.mem_append_right _ (List.mem_append_left _ (t1 x hx))
        · exact .inr h
      · exact .inr h
end Go.Proofs.Ytinpiodfpnbllaa

/- The root that a path gives: the program's. -/
namespace Go.Proofs.Ytinpiodfpnbllaa
open Go.RowKit
set_option linter.unusedVariables false
set_option linter.unusedSimpArgs false
attribute [local go_sem] run_storeCells_key run_storeCells_new

theorem climbS_le (leaf : List UInt8) : ∀ (n i : Nat) (path : List (List UInt8)), 1 ≤ n → (climbS leaf n i path).2.length ≤ n := by
  intro n
  induction n using Nat.strongRecOn with
  | _ n ih =>
    intro i path h1
    rcases Nat.lt_or_ge n 2 with h2 | h2
    · rw [climbS_one _ (by omega)]; simp; omega
    have s1 := splitS_lt h2
    have s2 := splitS_pos n
    by_cases hi : i < splitS n
    · rw [climbS_low _ _ h2 hi]
      have := ih (splitS n) s1 i (initK path) s2
      simp only [List.length_append, List.length_cons, List.length_nil]; omega
    · rw [climbS_high _ _ h2 hi]
      have := ih (n - splitS n) (by omega) (i - splitS n) (initK path) (by omega)
      simp only [List.length_append, List.length_cons, List.length_nil]; omega
/-- The last key of a path, in memory. -/
theorem KR.lastAt {w : World} {A : Option Addr} {c : Nat} {p : List (List UInt8)} (h : KR w A c p) {m : Nat} (hm : p.length = m + 1) : ∃ b off, A = some ⟨b, off, none⟩ ∧ b < w.heap.size ∧ w.rangeAt b (off + m * 16) (cellsB (lastK p)) ∧ (lastK p).length = 16 := by
  obtain ⟨b, off, e, hb, hr⟩ := h.at_ (i := m) (by omega)
  have hl0 : lastK p = p.getD m [] := by unfold lastK; rw [hm]; rfl
  have hl : lastK p = p[m] := by rw [hl0, List.getD_eq_getElem?_getD, List.getElem?_eq_getElem (by omega)]; rfl
  rw [hl]
  exact ⟨b, off, e, hb, hr, h.2 _ (List.getElem_mem _)⟩
theorem KR.init {w : World} {A : Option Addr} {c : Nat} {p : List (List UInt8)} (h : KR w A c p) : KR w A c (initK p) := h.take _ (by omega)

set_option maxHeartbeats 2000000 in
set_option maxRecDepth 100000 in
theorem climb_one (w0 : World) (g i : Nat) (leaf : List UInt8) (hl : leaf.length = 16) (path : List (List UInt8)) (m : Nat) (A : Option Addr) (c : Nat) (ts : List (List UInt8)) (w : World) (hw : Below w0.heap.size w0 w) (ht : TX w0.heap.size w g ts) (hts : ts.length ≤ 100000) :
    Calls Try.prog 134 #[.pointer (some ⟨g, 0, none⟩), .agg (cellsB leaf).toArray, .int .i64 1, .int .i64 (i : Int), .slice A m c] w fun e w' => e = .returned (.agg (cellsB (climbS leaf 1 i path).1).toArray) ∧ TX w0.heap.size w' g (ts ++ (climbS leaf 1 i path).2) ∧ KeepT w w' ∧ Below w0.heap.size w w' := by
  rw [climbS_one _ (by omega)]
  have HZ := Lib.hid zero16
  have HK := Lib.hid hl
  have hws : w0.heap.size ≤ w.heap.size := hw.size
  have b0 := alloc2_bel w (.cells (cellsB leaf).toArray 23) (.cells (cellsB zeroK).toArray 23)
  have B0 := Lib.hid (blk_b0 w (cellsB leaf).toArray 23 (.cells (cellsB zeroK).toArray 23))
  have B1 := Lib.hid (blk_b1 w (.cells (cellsB leaf).toArray 23) (cellsB zeroK).toArray 23)
  have HTX := Lib.hid (ht.below b0)
  have HLT : Hid (∀ W, Calls Try.prog 66 #[.agg (cellsB leaf).toArray] W fun e w' => (∃ A c, e = .returned (.slice A 17 c) ∧ OB W.heap.size w' A c (leafT leaf)) ∧ Below W.heap.size W w') := fun W => leafText_any leaf W hl
  have HLL : Hid ((leafT leaf).length = 17) := by unfold Hid leafT; simp [hl]
  dsimp only
  generalize leafT leaf = t at HLT HLL ⊢
  have HTK : Hid (∀ X d W, TX w0.heap.size W g ts → OB w0.heap.size W X d t → Calls Try.prog 65 #[.pointer (some ⟨g, 0, none⟩), .slice X 17 d] W fun e w' => e = .returned (.agg (cellsB (digS t)).toArray) ∧ TX w0.heap.size w' g (ts ++ [t]) ∧ KeepT W w' ∧ Below w0.heap.size W w') := fun X d W h1 h2 => take_any ts t X d g W HLL.out h1 h2 (by omega) hts
  have HDL : Hid ((digS t).length = 16) := digS_length _
  generalize digS t = dg at HDL HTK ⊢
  have hdc : (cellsB dg).length = 16 := by rw [cellsB_length, HDL.out]
  have hall := all16 dg
  clear hl ht hw
  go_enter Try.func134, Try.ntmps134
  go_wp2_with (first
    | (refine wpList_load_row rfl 23 (.tmp 6) rfl w.heap.size rfl 23 (cellsB leaf).toArray (0, 0) _ (by rw [HZ.out]; exact B0.out) under_key rfl (cellsB_size _ HK.out) ?_)
    | (go_at_call 66; rw [HZ.out]; refine (HLT.out _).mono ?_; rintro e w1 ⟨⟨A1, c1, rfl, ho1⟩, hb1⟩; have b1 := bel_on b0 hb1; have TX1 := Lib.hid (HTX.out.below hb1); have O1 := Lib.hid (ho1.le_ (Nat.le_trans hws b0.size)); have Q1 := Lib.hid (B1.out.below' hb1); clear ho1 hb1)
    | (go_at_call 65; refine (HTK.out _ _ _ TX1.out O1.out).mono ?_; rintro e w2 ⟨rfl, htx2, hk2, hb2⟩; have TX2 := Lib.hid htx2; have K2 := Lib.hid ((KeepT.of_below b1).trans hk2); have Q2 := hk2 _ _ Q1.out; have b2 := Lib.hid ((b1.mono hws).trans hb2); have hr2 : (rowAt w2 (w.heap.size + 1)).size = 16 := (by rw [Q2.row]; rfl); have hf2 := Q2.free; have HQ2 := Lib.hid Q2; clear Q2 htx2 hk2 hb2))
  exact bodyPost_ret (results_cell_row rfl _ _ (w.heap.size + 1) _ _ (0, 0) _ rfl (HQ2.out.setRow (cellsB dg).toArray) under_key rfl (cellsB_size _ HDL.out)) rfl ⟨rfl, TX2.out.row HQ2.out _, K2.out.rowAbove (by omega) _, below_setRow b2.out (by omega) _⟩

set_option maxHeartbeats 4000000 in
set_option maxRecDepth 100000 in
theorem climb_any (w0 : World) (g : Nat) (leaf : List UInt8) (hl : leaf.length = 16) (n : Nat) : ∀ (i : Nat) (path : List (List UInt8)) (A : Option Addr) (c : Nat) (ts : List (List UInt8)) (w : World), 1 ≤ n → n ≤ 1000 → i < n → path.length = stepsS n i → KR w0 A c path → Below w0.heap.size w0 w → TX w0.heap.size w g ts → ts.length + n ≤ 50000 →
    Calls Try.prog 134 #[.pointer (some ⟨g, 0, none⟩), .agg (cellsB leaf).toArray, .int .i64 (n : Int), .int .i64 (i : Int), .slice A path.length c] w fun e w' => e = .returned (.agg (cellsB (climbS leaf n i path).1).toArray) ∧ TX w0.heap.size w' g (ts ++ (climbS leaf n i path).2) ∧ KeepT w w' ∧ Below w0.heap.size w w' := by
  induction n using Nat.strongRecOn with
  | _ n ih =>
    intro i path A c ts w h1n hbig hin hp h hw ht hts
    rcases Nat.lt_or_ge n 2 with h2 | h2
    · obtain rfl : n = 1 := by omega
      exact climb_one w0 g i leaf hl path path.length A c ts w hw ht (by omega)
    have hs1 := splitS_pos n
    have hs2 := splitS_lt h2
    have hni : (2 : Int) ≤ (n : Int) := by omega
    have hnb : (n : Int) ≤ 1000 := by omega
    have hib : (i : Int) < (n : Int) := by omega
    have hne1 : ¬ (n : Int) = 1 := by omega
    have hws : w0.heap.size ≤ w.heap.size := hw.size
    have hcl := Rd.le h.1
    have hcap := Rd.len h.1
    have HSP : Hid (∀ W, Calls Try.prog 72 #[.int .i64 (n : Int)] W fun e w' => e = .returned (.int .i64 ((splitS n : Nat) : Int)) ∧ W = w') := fun W => split_any n W h2 (by omega)
    have b0 := alloc2_bel w (.cells (cellsB leaf).toArray 23) (.cells (cellsB zeroK).toArray 23)
    have B0 := Lib.hid (blk_b0 w (cellsB leaf).toArray 23 (.cells (cellsB zeroK).toArray 23))
    have B1 := Lib.hid (blk_b1 w (.cells (cellsB leaf).toArray 23) (cellsB zeroK).toArray 23)
    have HTX := Lib.hid (ht.below b0)
    have HW := Lib.hid hw
    have HZ := Lib.hid zero16
    have HK := Lib.hid hl
    by_cases hk : i < splitS n
    · have hki : (i : Int) < ((splitS n : Nat) : Int) := by omega
      obtain ⟨m, hm⟩ : ∃ m, path.length = m + 1 := ⟨path.length - 1, by rw [hp, stepsS_low h2 hk]; omega⟩
      rw [climbS_low _ _ h2 hk]
      have hq2 := climbS_le leaf (splitS n) (i) (initK path) (by omega)
      have hql := climbS_length leaf (splitS n) (i) (initK path)
      have HC : Hid (∀ W, Below w0.heap.size w0 W → TX w0.heap.size W g ts → Calls Try.prog 134 #[.pointer (some ⟨g, 0, none⟩), .agg (cellsB leaf).toArray, .int .i64 ((splitS n : Nat) : Int), .int .i64 (i : Int), .slice A m c] W fun e w' => e = .returned (.agg (cellsB (climbS leaf (splitS n) i (initK path)).1).toArray) ∧ TX w0.heap.size w' g (ts ++ (climbS leaf (splitS n) i (initK path)).2) ∧ KeepT W w' ∧ Below w0.heap.size W w') := fun W hW hT => by
        have hlen : m = (initK path).length := by rw [initK_length, hm]; omega
        rw [hlen]
        exact (ih (splitS n) hs2 i (initK path) A c ts W hs1 (by omega) hk (by rw [initK_length, hp, stepsS_low h2 hk]; omega) h.init hW hT (by omega))
      obtain ⟨b, off, rfl, hb, hr, hhl⟩ := h.lastAt hm
      have HR : Hid (∀ W, Below w0.heap.size w0 W → W.rangeAt b (off + m * 16) (cellsB (lastK path))) := fun W hW => range_below hr hW
      have HH := Lib.hid hhl
      have hmi : (m : Int) ≤ 140737488351232 := by omega
      have hmc : m ≤ c := by omega
      have hmlt : (m : Int) < (m : Int) + 1 := by omega
      have hsl := fun W => slice_keys_to W (some ⟨b, off, none⟩) (m + 1) c m hmc
      generalize climbS leaf (splitS n) i (initK path) = r at HC hq2 hql ⊢
      obtain ⟨q, x⟩ := r
      dsimp only at HC hq2 hql ⊢
      generalize lastK path = h0 at HR HH ⊢
      rw [hm]
      generalize splitS n = k at *
      have HNT : Hid (∀ W, Calls Try.prog 68 #[.agg (cellsB q).toArray, .agg (cellsB h0).toArray] W fun e w' => (∃ A c, e = .returned (.slice A 33 c) ∧ OB W.heap.size w' A c (nodeT q h0)) ∧ Below W.heap.size W w') := fun W => nodeText_any q h0 W (by first | exact hql | exact HH.out) (by first | exact HH.out | exact hql)
      have HNL : Hid ((nodeT q h0).length = 33) := by unfold Hid nodeT; simp [hql, HH.out]
      generalize nodeT q h0 = t at HNT HNL ⊢
      have HTK : Hid (∀ X d W, TX w0.heap.size W g (ts ++ x) → OB w0.heap.size W X d t → Calls Try.prog 65 #[.pointer (some ⟨g, 0, none⟩), .slice X 33 d] W fun e w' => e = .returned (.agg (cellsB (digS t)).toArray) ∧ TX w0.heap.size w' g ((ts ++ x) ++ [t]) ∧ KeepT W w' ∧ Below w0.heap.size W w') := fun X d W h1 h2 => take_any _ t X d g W HNL.out h1 h2 (by omega) (by rw [List.length_append]; omega)
      have HDL : Hid ((digS t).length = 16) := digS_length _
      generalize digS t = dg at HDL HTK ⊢
      have HBW : Hid (b < w0.heap.size) := hb
      clear ih h hp hm hw ht hts hq2 hr hhl hb hl
      go_enter Try.func134, Try.ntmps134
      go_wp2_with (go_at_call 72; rw [HZ.out]; refine (HSP.out _).mono ?_; rintro e w1 ⟨rfl, rfl⟩)
      obtain ⟨W0, hW0⟩ : ∃ W : World, W = (w.alloc (.cells (cellsB leaf).toArray 23)).alloc (.cells (cellsB zeroK).toArray 23) := ⟨_, rfl⟩
      rw [← hW0] at b0 B0 B1 HTX ⊢
      clear hW0
      refine wp_region_noPanic ?_
      have bw : Below w0.heap.size w0 W0.drew := HW.out.trans ((b0.mono hws).trans (Below.refl _ _).drew)
      refine wp_region_held_drew (S := fun w' => w'.rangeAt w.heap.size 0 (cellsB leaf) ∧ w'.rangeAt b (off + m * 16) (cellsB h0)) (by kernel_rfl) ⟨B0.out.drew.range, HR.out _ bw⟩ (fun hS => ?_)
      refine hd_take 0 (_) rfl rfl (by kernel_rfl) (by kernel_rfl) (by kernel_rfl) (fun _ _ _ h => h) (fun w _ => by go_simp <;> rfl) hS ?_
      refine hd_take 1 (_) rfl rfl (by kernel_rfl) (by kernel_rfl) (by kernel_rfl) (fun _ _ _ h => h) (fun w _ => by go_simp <;> rfl) hS ?_
      refine hd_take 3 (_) rfl rfl (by kernel_rfl) (by kernel_rfl) (by kernel_rfl) (fun _ _ _ h => h) (fun w _ => by go_simp <;> rfl) hS ?_
      refine hd_take 4 (_) rfl rfl (by kernel_rfl) (by kernel_rfl) (by kernel_rfl) (fun _ _ _ h => h) (fun w _ => by go_simp <;> rfl) hS ?_
      refine hd_take 5 (_) rfl rfl (by kernel_rfl) (by kernel_rfl) (by kernel_rfl) (fun _ _ _ h => h) (fun w _ => by go_simp <;> rfl) hS ?_
      refine hd_take 6 (_) rfl rfl (by kernel_rfl) (by kernel_rfl) (by kernel_rfl) (fun _ _ _ h => h) (fun w _ => by go_simp <;> rfl) hS ?_
      refine hd_take 9 (_) rfl rfl (by kernel_rfl) (by kernel_rfl) (by kernel_rfl) (fun _ _ _ h => h) (fun w _ => by go_simp <;> rfl) hS ?_
      refine hd_take 10 (_) rfl rfl (by kernel_rfl) (by kernel_rfl) (by kernel_rfl) (fun _ _ _ h => h) (fun w _ => by go_simp <;> rfl) hS ?_
      simp only [List.getElem_toArray, List.getElem_cons_succ, List.getElem_cons_zero, Act.put, List.setIfInBounds_toArray, List.set_cons_zero, List.set_cons_succ]
      refine hd_take 7 (_) rfl rfl (by kernel_rfl) (by kernel_rfl) (by kernel_rfl) (fun _ _ _ h => h) (fun w _ => by go_simp <;> rfl) hS ?_
      refine hd_take 11 (_) rfl rfl (by kernel_rfl) (by kernel_rfl) (by kernel_rfl) (fun _ _ _ h => h) (fun w _ => by go_simp <;> rfl) hS ?_
      simp only [List.getElem_toArray, List.getElem_cons_succ, List.getElem_cons_zero, Act.put, List.setIfInBounds_toArray, List.set_cons_zero, List.set_cons_succ]
      refine hd_load 2 w.heap.size 0 (cellsB leaf) _ _ rfl rfl rfl (by kernel_rfl) (by kernel_rfl) (by kernel_rfl) (fun _ _ _ h => h) rfl (fun w hw => hw.1) under_key rfl (key_info HK.out) hS ?_
      refine hd_load 12 b (off + m * 16) (cellsB h0) _ _ rfl rfl rfl (by kernel_rfl) (by kernel_rfl) (by kernel_rfl) (fun _ _ _ h => h) rfl (fun w hw => hw.2) under_key rfl (key_info HH.out) hS ?_
      simp only [List.getElem_toArray, List.getElem_cons_succ, List.getElem_cons_zero, Act.put, List.setIfInBounds_toArray, List.set_cons_zero, List.set_cons_succ]
      refine hd_calls 8 134 #[.pointer (some ⟨g, 0, none⟩), .agg (cellsB leaf).toArray, .int .i64 (k : Int), .int .i64 (i : Int), .slice (some ⟨b, off, none⟩) m c] rfl rfl (by kernel_rfl) (by go_simp) ((HC.out _ bw (HTX.out.below (Below.refl _ _).drew)).mono ?_)
      rintro e w3 ⟨rfl, ht3, hk3, hb3⟩
      have Q3 := hk3 _ _ B0.out.drew
      have R3 := hk3 _ _ B1.out.drew
      have b3 := bw.trans hb3
      have k3 : KeepT w w3 := ((KeepT.of_below b0).trans (KeepT.of_below (Below.refl _ _).drew)).trans hk3
      refine ⟨_, rfl, ⟨Q3.range, HR.out _ b3⟩, ?_⟩
      simp only [List.getElem_toArray, List.getElem_cons_succ, List.getElem_cons_zero, Act.put, List.setIfInBounds_toArray, List.set_cons_zero, List.set_cons_succ]
      refine hd_calls 13 68 #[.agg (cellsB q).toArray, .agg (cellsB h0).toArray] rfl rfl (by kernel_rfl) (by go_simp) ((HNT.out _).mono ?_)
      rintro e w4 ⟨⟨A4, c4, rfl, ho4⟩, hb4⟩
      have Q4 := Q3.below' hb4
      have R4 := R3.below' hb4
      have b4 := bel_on b3 hb4
      have t4 := ht3.below hb4
      have o4 := ho4.le_ b3.size
      refine ⟨_, rfl, ⟨Q4.range, HR.out _ b4⟩, ?_⟩
      simp only [List.getElem_toArray, List.getElem_cons_succ, List.getElem_cons_zero, Act.put, List.setIfInBounds_toArray, List.set_cons_zero, List.set_cons_succ]
      refine hd_calls 14 65 #[.pointer (some ⟨g, 0, none⟩), .slice A4 33 c4] rfl rfl (by kernel_rfl) (by go_simp) ((HTK.out _ _ _ t4 o4).mono ?_)
      rintro e w6 ⟨rfl, ht6, hk6, hb6⟩
      have Q6 := hk6 _ _ Q4
      have R6 := hk6 _ _ R4
      have b6 := b4.trans hb6
      have K6 : KeepT w w6 := (k3.trans (KeepT.of_below hb4)).trans hk6
      refine ⟨_, rfl, ⟨Q6.range, HR.out _ b6⟩, ?_⟩
      simp only [List.getElem_toArray, List.getElem_cons_succ, List.getElem_cons_zero, Act.put, List.setIfInBounds_toArray, List.set_cons_zero, List.set_cons_succ]
      have hS7 := And.intro (range_setRow Q6.range (g' := w.heap.size + 1) (by omega) (cellsB dg).toArray) (range_setRow (HR.out _ b6) (g' := w.heap.size + 1) (by have := HBW.out; omega) (cellsB dg).toArray)
      refine hd_store 15 (w.heap.size + 1) (cellsB dg).toArray _ _ _ rfl rfl rfl (by kernel_rfl) rfl rfl R6 (cellsB_size _ HDL.out) (by rw [List.size_toArray, List.size_toArray, cellsB_length, cellsB_length, HDL.out]; rfl) (all_oneCell_toArray (cells_one dg)) hS7 ?_
      refine wpAnyH_done (by kernel_rfl) (NoPanic.normal ?_) _
      simp only [List.getElem_toArray, List.getElem_cons_succ, List.getElem_cons_zero, Act.put, List.setIfInBounds_toArray, List.set_cons_zero, List.set_cons_succ]
      have HT6 := Lib.hid (ht6.row R6 (cellsB dg).toArray)
      have HK6 := Lib.hid (K6.rowAbove (g := w.heap.size + 1) (by omega) (cellsB dg).toArray)
      have HB6 := Lib.hid (below_setRow ((b0.mono hws).trans ((Below.refl _ W0).drew.trans ((hb3.trans (hb4.mono b3.size)).trans hb6))) (g := w.heap.size + 1) (by omega) (cellsB dg).toArray)
      have HQ6 := Lib.hid (R6.setRow (cellsB dg).toArray)
      clear ht6 t4 ht3 hk3 hk6 K6 k3 Q3 R3 Q4 R4 Q6 R6 hS hS7 o4 ho4
      go_wp2_with fail
      exact bodyPost_ret (results_cell_row rfl _ _ (w.heap.size + 1) _ _ (0, 0) _ rfl HQ6.out under_key rfl (cellsB_size _ HDL.out)) rfl ⟨rfl, by have := HT6.out; simpa only [List.append_assoc] using this, HK6.out, HB6.out⟩
    · have hki : ¬ (i : Int) < ((splitS n : Nat) : Int) := by omega
      have hki2 : ((splitS n : Nat) : Int) ≤ (i : Int) := by omega
      have hkn : ((splitS n : Nat) : Int) < (n : Int) := by omega
      have w1 : IntKind.i64.wrap ((n : Int) - ((splitS n : Nat) : Int)) = (n : Int) - ((splitS n : Nat) : Int) := by rw [IntKind.wrap_i64]; omega
      have w2 : IntKind.i64.wrap ((i : Int) - ((splitS n : Nat) : Int)) = (i : Int) - ((splitS n : Nat) : Int) := by rw [IntKind.wrap_i64]; omega
      obtain ⟨m, hm⟩ : ∃ m, path.length = m + 1 := ⟨path.length - 1, by rw [hp, stepsS_high h2 hk]; omega⟩
      rw [climbS_high _ _ h2 hk]
      have hq2 := climbS_le leaf (n - splitS n) (i - splitS n) (initK path) (by omega)
      have hql := climbS_length leaf (n - splitS n) (i - splitS n) (initK path)
      have HC : Hid (∀ W, Below w0.heap.size w0 W → TX w0.heap.size W g ts → Calls Try.prog 134 #[.pointer (some ⟨g, 0, none⟩), .agg (cellsB leaf).toArray, .int .i64 ((n : Int) - ((splitS n : Nat) : Int)), .int .i64 ((i : Int) - ((splitS n : Nat) : Int)), .slice A m c] W fun e w' => e = .returned (.agg (cellsB (climbS leaf (n - splitS n) (i - splitS n) (initK path)).1).toArray) ∧ TX w0.heap.size w' g (ts ++ (climbS leaf (n - splitS n) (i - splitS n) (initK path)).2) ∧ KeepT W w' ∧ Below w0.heap.size W w') := fun W hW hT => by
        have hlen : m = (initK path).length := by rw [initK_length, hm]; omega
        rw [hlen]
        exact (by
        rw [show (n : Int) - ((splitS n : Nat) : Int) = ((n - splitS n : Nat) : Int) from by omega, show (i : Int) - ((splitS n : Nat) : Int) = ((i - splitS n : Nat) : Int) from by omega]
        exact ih (n - splitS n) (by omega) (i - splitS n) (initK path) A c ts W (by omega) (by omega) (by omega) (by rw [initK_length, hp, stepsS_high h2 hk]; omega) h.init hW hT (by omega))
      obtain ⟨b, off, rfl, hb, hr, hhl⟩ := h.lastAt hm
      have HR : Hid (∀ W, Below w0.heap.size w0 W → W.rangeAt b (off + m * 16) (cellsB (lastK path))) := fun W hW => range_below hr hW
      have HH := Lib.hid hhl
      have hmi : (m : Int) ≤ 140737488351232 := by omega
      have hmc : m ≤ c := by omega
      have hmlt : (m : Int) < (m : Int) + 1 := by omega
      have hsl := fun W => slice_keys_to W (some ⟨b, off, none⟩) (m + 1) c m hmc
      generalize climbS leaf (n - splitS n) (i - splitS n) (initK path) = r at HC hq2 hql ⊢
      obtain ⟨q, x⟩ := r
      dsimp only at HC hq2 hql ⊢
      generalize lastK path = h0 at HR HH ⊢
      rw [hm]
      generalize splitS n = k at *
      have HNT : Hid (∀ W, Calls Try.prog 68 #[.agg (cellsB h0).toArray, .agg (cellsB q).toArray] W fun e w' => (∃ A c, e = .returned (.slice A 33 c) ∧ OB W.heap.size w' A c (nodeT h0 q)) ∧ Below W.heap.size W w') := fun W => nodeText_any h0 q W (by first | exact hql | exact HH.out) (by first | exact HH.out | exact hql)
      have HNL : Hid ((nodeT h0 q).length = 33) := by unfold Hid nodeT; simp [hql, HH.out]
      generalize nodeT h0 q = t at HNT HNL ⊢
      have HTK : Hid (∀ X d W, TX w0.heap.size W g (ts ++ x) → OB w0.heap.size W X d t → Calls Try.prog 65 #[.pointer (some ⟨g, 0, none⟩), .slice X 33 d] W fun e w' => e = .returned (.agg (cellsB (digS t)).toArray) ∧ TX w0.heap.size w' g ((ts ++ x) ++ [t]) ∧ KeepT W w' ∧ Below w0.heap.size W w') := fun X d W h1 h2 => take_any _ t X d g W HNL.out h1 h2 (by omega) (by rw [List.length_append]; omega)
      have HDL : Hid ((digS t).length = 16) := digS_length _
      generalize digS t = dg at HDL HTK ⊢
      have HBW : Hid (b < w0.heap.size) := hb
      clear ih h hp hm hw ht hts hq2 hr hhl hb hl
      go_enter Try.func134, Try.ntmps134
      go_wp2_with (go_at_call 72; rw [HZ.out]; refine (HSP.out _).mono ?_; rintro e w1 ⟨rfl, rfl⟩)
      obtain ⟨W0, hW0⟩ : ∃ W : World, W = (w.alloc (.cells (cellsB leaf).toArray 23)).alloc (.cells (cellsB zeroK).toArray 23) := ⟨_, rfl⟩
      rw [← hW0] at b0 B0 B1 HTX ⊢
      clear hW0
      refine wp_region_noPanic ?_
      have bw : Below w0.heap.size w0 W0.drew := HW.out.trans ((b0.mono hws).trans (Below.refl _ _).drew)
      refine wp_region_held_drew (S := fun w' => w'.rangeAt w.heap.size 0 (cellsB leaf) ∧ w'.rangeAt b (off + m * 16) (cellsB h0)) (by kernel_rfl) ⟨B0.out.drew.range, HR.out _ bw⟩ (fun hS => ?_)
      refine hd_take 0 (_) rfl rfl (by kernel_rfl) (by kernel_rfl) (by kernel_rfl) (fun _ _ _ h => h) (fun w _ => by go_simp <;> rfl) hS ?_
      refine hd_take 1 (_) rfl rfl (by kernel_rfl) (by kernel_rfl) (by kernel_rfl) (fun _ _ _ h => h) (fun w _ => by go_simp <;> rfl) hS ?_
      refine hd_take 2 (_) rfl rfl (by kernel_rfl) (by kernel_rfl) (by kernel_rfl) (fun _ _ _ h => h) (fun w _ => by go_simp <;> rfl) hS ?_
      refine hd_take 5 (_) rfl rfl (by kernel_rfl) (by kernel_rfl) (by kernel_rfl) (fun _ _ _ h => h) (fun w _ => by go_simp <;> rfl) hS ?_
      refine hd_take 7 (_) rfl rfl (by kernel_rfl) (by kernel_rfl) (by kernel_rfl) (fun _ _ _ h => h) (fun w _ => by go_simp <;> rfl) hS ?_
      refine hd_take 8 (_) rfl rfl (by kernel_rfl) (by kernel_rfl) (by kernel_rfl) (fun _ _ _ h => h) (fun w _ => by go_simp <;> rfl) hS ?_
      refine hd_take 10 (_) rfl rfl (by kernel_rfl) (by kernel_rfl) (by kernel_rfl) (fun _ _ _ h => h) (fun w _ => by go_simp <;> rfl) hS ?_
      refine hd_take 11 (_) rfl rfl (by kernel_rfl) (by kernel_rfl) (by kernel_rfl) (fun _ _ _ h => h) (fun w _ => by go_simp <;> rfl) hS ?_
      refine hd_take 13 (_) rfl rfl (by kernel_rfl) (by kernel_rfl) (by kernel_rfl) (fun _ _ _ h => h) (fun w _ => by go_simp <;> rfl) hS ?_
      refine hd_take 14 (_) rfl rfl (by kernel_rfl) (by kernel_rfl) (by kernel_rfl) (fun _ _ _ h => h) (fun w _ => by go_simp <;> rfl) hS ?_
      simp only [List.getElem_toArray, List.getElem_cons_succ, List.getElem_cons_zero, Act.put, List.setIfInBounds_toArray, List.set_cons_zero, List.set_cons_succ]
      refine hd_take 3 (_) rfl rfl (by kernel_rfl) (by kernel_rfl) (by kernel_rfl) (fun _ _ _ h => h) (fun w _ => by go_simp <;> rfl) hS ?_
      refine hd_take 9 (_) rfl rfl (by kernel_rfl) (by kernel_rfl) (by kernel_rfl) (fun _ _ _ h => h) (fun w _ => by go_simp <;> rfl) hS ?_
      refine hd_take 12 (_) rfl rfl (by kernel_rfl) (by kernel_rfl) (by kernel_rfl) (fun _ _ _ h => h) (fun w _ => by go_simp <;> rfl) hS ?_
      refine hd_take 15 (_) rfl rfl (by kernel_rfl) (by kernel_rfl) (by kernel_rfl) (fun _ _ _ h => h) (fun w _ => by go_simp <;> rfl) hS ?_
      simp only [List.getElem_toArray, List.getElem_cons_succ, List.getElem_cons_zero, Act.put, List.setIfInBounds_toArray, List.set_cons_zero, List.set_cons_succ]
      refine hd_load 6 w.heap.size 0 (cellsB leaf) _ _ rfl rfl rfl (by kernel_rfl) (by kernel_rfl) (by kernel_rfl) (fun _ _ _ h => h) rfl (fun w hw => hw.1) under_key rfl (key_info HK.out) hS ?_
      refine hd_load 4 b (off + m * 16) (cellsB h0) _ _ rfl rfl rfl (by kernel_rfl) (by kernel_rfl) (by kernel_rfl) (fun _ _ _ h => h) rfl (fun w hw => hw.2) under_key rfl (key_info HH.out) hS ?_
      simp only [List.getElem_toArray, List.getElem_cons_succ, List.getElem_cons_zero, Act.put, List.setIfInBounds_toArray, List.set_cons_zero, List.set_cons_succ]
      refine hd_calls 16 134 #[.pointer (some ⟨g, 0, none⟩), .agg (cellsB leaf).toArray, .int .i64 ((n : Int) - (k : Int)), .int .i64 ((i : Int) - (k : Int)), .slice (some ⟨b, off, none⟩) m c] rfl rfl (by kernel_rfl) (by go_simp) ((HC.out _ bw (HTX.out.below (Below.refl _ _).drew)).mono ?_)
      rintro e w3 ⟨rfl, ht3, hk3, hb3⟩
      have Q3 := hk3 _ _ B0.out.drew
      have R3 := hk3 _ _ B1.out.drew
      have b3 := bw.trans hb3
      have k3 : KeepT w w3 := ((KeepT.of_below b0).trans (KeepT.of_below (Below.refl _ _).drew)).trans hk3
      refine ⟨_, rfl, ⟨Q3.range, HR.out _ b3⟩, ?_⟩
      simp only [List.getElem_toArray, List.getElem_cons_succ, List.getElem_cons_zero, Act.put, List.setIfInBounds_toArray, List.set_cons_zero, List.set_cons_succ]
      refine hd_calls 17 68 #[.agg (cellsB h0).toArray, .agg (cellsB q).toArray] rfl rfl (by kernel_rfl) (by go_simp) ((HNT.out _).mono ?_)
      rintro e w4 ⟨⟨A4, c4, rfl, ho4⟩, hb4⟩
      have Q4 := Q3.below' hb4
      have R4 := R3.below' hb4
      have b4 := bel_on b3 hb4
      have t4 := ht3.below hb4
      have o4 := ho4.le_ b3.size
      refine ⟨_, rfl, ⟨Q4.range, HR.out _ b4⟩, ?_⟩
      simp only [List.getElem_toArray, List.getElem_cons_succ, List.getElem_cons_zero, Act.put, List.setIfInBounds_toArray, List.set_cons_zero, List.set_cons_succ]
      refine hd_calls 18 65 #[.pointer (some ⟨g, 0, none⟩), .slice A4 33 c4] rfl rfl (by kernel_rfl) (by go_simp) ((HTK.out _ _ _ t4 o4).mono ?_)
      rintro e w6 ⟨rfl, ht6, hk6, hb6⟩
      have Q6 := hk6 _ _ Q4
      have R6 := hk6 _ _ R4
      have b6 := b4.trans hb6
      have K6 : KeepT w w6 := (k3.trans (KeepT.of_below hb4)).trans hk6
      refine ⟨_, rfl, ⟨Q6.range, HR.out _ b6⟩, ?_⟩
      simp only [List.getElem_toArray, List.getElem_cons_succ, List.getElem_cons_zero, Act.put, List.setIfInBounds_toArray, List.set_cons_zero, List.set_cons_succ]
      have hS7 := And.intro (range_setRow Q6.range (g' := w.heap.size + 1) (by omega) (cellsB dg).toArray) (range_setRow (HR.out _ b6) (g' := w.heap.size + 1) (by have := HBW.out; omega) (cellsB dg).toArray)
      refine hd_store 19 (w.heap.size + 1) (cellsB dg).toArray _ _ _ rfl rfl rfl (by kernel_rfl) rfl rfl R6 (cellsB_size _ HDL.out) (by rw [List.size_toArray, List.size_toArray, cellsB_length, cellsB_length, HDL.out]; rfl) (all_oneCell_toArray (cells_one dg)) hS7 ?_
      refine wpAnyH_done (by kernel_rfl) (NoPanic.normal ?_) _
      simp only [List.getElem_toArray, List.getElem_cons_succ, List.getElem_cons_zero, Act.put, List.setIfInBounds_toArray, List.set_cons_zero, List.set_cons_succ]
      have HT6 := Lib.hid (ht6.row R6 (cellsB dg).toArray)
      have HK6 := Lib.hid (K6.rowAbove (g := w.heap.size + 1) (by omega) (cellsB dg).toArray)
      have HB6 := Lib.hid (below_setRow ((b0.mono hws).trans ((Below.refl _ W0).drew.trans ((hb3.trans (hb4.mono b3.size)).trans hb6))) (g := w.heap.size + 1) (by omega) (cellsB dg).toArray)
      have HQ6 := Lib.hid (R6.setRow (cellsB dg).toArray)
      clear ht6 t4 ht3 hk3 hk6 K6 k3 Q3 R3 Q4 R4 Q6 R6 hS hS7 o4 ho4
      go_wp2_with fail
      exact bodyPost_ret (results_cell_row rfl _ _ (w.heap.size + 1) _ _ (0, 0) _ rfl HQ6.out under_key rfl (cellsB_size _ HDL.out)) rfl ⟨rfl, by have := HT6.out; simpa only [List.append_assoc] using this, HK6.out, HB6.out⟩
end Go.Proofs.Ytinpiodfpnbllaa
