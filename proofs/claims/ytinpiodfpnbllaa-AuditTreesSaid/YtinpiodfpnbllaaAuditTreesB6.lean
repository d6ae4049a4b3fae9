/-
  Lemmas and contracts, joined: part 6.
-/
import Derived.Laws.ResultCell
import Derived.Test.YtinpiodfpnbllaaAuditTreesB5
set_option linter.unusedSimpArgs false
set_option linter.unusedVariables false
/- The proof of a leaf: the program's and the reference's; the reference's growth. -/
namespace Go.Proofs.Ytinpiodfpnbllaa
open Go.RowKit
set_option linter.unusedVariables false
set_option linter.unusedSimpArgs false

/-- The cells of a proof, or of a growth. -/
def prC (a b : Int) (A : Option Addr) (n c : Nat) : List Value := [.int .i64 a, .int .i64 b, .slice A n c]
theorem bcell {W w1 : World} (hb : Below W.heap.size W w1) : (∀ b o, b < W.heap.size → w1.cell? ⟨b, o, none⟩ = W.cell? ⟨b, o, none⟩) ∧ (∀ b o, b < W.heap.size → w1.frozen? ⟨b, o, none⟩ = W.frozen? ⟨b, o, none⟩) :=
  ⟨fun b o h => hb.cell (p := ⟨b, o, none⟩) h, fun b o h => hb.frozen (p := ⟨b, o, none⟩) h⟩
theorem OK16.set_low {B : Nat} {w : World} {A : Option Addr} {c : Nat} {ks : List (List UInt8)} (h : OK16 B w A c ks) (p : Addr) (u : Value) (hp : p.block < B) : OK16 B (w.setCell p u) A c ks := by
  refine ⟨h.1, h.2.elim Or.inl fun ⟨g, cap, cur, hv, hg, hh, r⟩ => Or.inr ⟨g, cap, cur, hv, hg, ?_, r⟩⟩
  exact (Below.heap_setCell w p u g (by omega)).trans hh
/-- What is returned: a proof or a growth, with an error. -/
def PrEnd (B : Nat) (a b : Int) (P : List (List UInt8)) (e0 : Int) (e : Ending) (w' : World) : Prop := ∃ A c, e = .returned (.tuple #[.agg (prC a b A P.length c).toArray, .int .i64 e0]) ∧ OK16 B w' A c P
structure PrV where
  a : Int
  b : Int
  P : List (List UInt8)
  e : Int
def proveS (ks : List (List UInt8)) (i : Int) : PrV := if 128 < ks.length then ⟨0, 0, [], 4⟩ else if i < 0 ∨ (ks.length : Int) ≤ i then ⟨0, 0, [], 2⟩ else ⟨ks.length, i, pathS ks i.toNat, 0⟩
def growthS (ks : List (List UInt8)) (i : Int) : PrV := if 128 < ks.length then ⟨0, 0, [], 4⟩ else if i < 1 ∨ (ks.length : Int) < i then ⟨0, 0, [], 2⟩ else ⟨i, ks.length, partS ks i.toNat true, 0⟩

set_option maxHeartbeats 1000000 in
theorem proof_any (ks : List (List UInt8)) (i : Nat) (A : Option Addr) (c : Nat) (w : World) {n : Nat} (hn : ks.length = n) (hi : i < n) (hbig : n ≤ 1000) (h : KR w A c ks) :
    Calls Try.prog 70 #[.slice A n c, .int .i64 (i : Int)] w fun e w' => (∃ A' c', e = .returned (.agg (prC n i A' (pathS ks i).length c').toArray) ∧ OK16 w.heap.size w' A' c' (pathS ks i)) ∧ Below w.heap.size w w' := by
  have hni : (n : Int) ≤ 1000 := by omega
  have b0 := alloc_bel w (.cells #[.int .i64 0, .int .i64 0, .slice none 0 0] 52)
  have HP : Hid (∀ W, Below w.heap.size w W → Calls Try.prog 130 #[.slice A n c, .int .i64 (i : Int)] W fun e w' => (∃ A' c', e = .returned (.slice A' (pathS ks i).length c') ∧ OK16 W.heap.size w' A' c' (pathS ks i)) ∧ Below W.heap.size W w') := fun W hW => prove_any ks i A c W hn hi hbig (h.below hW)
  generalize pathS ks i = P at HP ⊢
  generalize P.length = m at HP ⊢
  clear hn hi hbig h
  go_enter Try.func70, Try.ntmps70
  go_wp2_with (go_at_call 130; refine (HP.out _ b0).mono ?_; rintro e w1 ⟨⟨A1, c1, rfl, ho1⟩, hb1⟩; have b1 := Lib.hid (bel_on b0 hb1); have HO := Lib.hid ho1; have hz := hb1.size; obtain ⟨hc, hf⟩ := bcell hb1; clear ho1 hb1)
  have hlt : w.heap.size < w1.heap.size := by simp at hz; omega
  refine bodyPost_ret (v := .agg #[.int .i64 (n : Int), .int .i64 (i : Int), .slice A1 m c1]) (by simp [results, Try.f70, go_sem, hc, hf, hlt]) rfl ⟨⟨A1, c1, rfl, (((HO.out.set_low _ _ (by simp)).set_low _ _ (by simp)).set_low _ _ (by simp)).le_ (by simp)⟩, ?_⟩
  exact ((b1.out.setCell (by simp) _).setCell (by simp) _).setCell (by simp) _

set_option maxHeartbeats 1000000 in
theorem refProofOf_any (ks : List (List UInt8)) (i : Nat) (A : Option Addr) (c : Nat) (w : World) {n : Nat} (hn : ks.length = n) (hi : i < n) (hbig : n ≤ 1000) (h : KR w A c ks) :
    Calls Try.prog 71 #[.slice A n c, .int .i64 (i : Int)] w fun e w' => (∃ A' c', e = .returned (.agg (prC n i A' (pathS ks i).length c').toArray) ∧ OK16 w.heap.size w' A' c' (pathS ks i)) ∧ Below w.heap.size w w' := by
  have hni : (n : Int) ≤ 1000 := by omega
  have b0 := alloc_bel w (.cells #[.int .i64 0, .int .i64 0, .slice none 0 0] 52)
  have HP : Hid (∀ W, Below w.heap.size w W → Calls Try.prog 131 #[.slice A n c, .int .i64 (i : Int)] W fun e w' => (∃ A' c', e = .returned (.slice A' (pathS ks i).length c') ∧ OK16 W.heap.size w' A' c' (pathS ks i)) ∧ Below W.heap.size W w') := fun W hW => refPath_any n ks i A c W hn hi hbig (h.below hW)
  generalize pathS ks i = P at HP ⊢
  generalize P.length = m at HP ⊢
  clear hn hi hbig h
  go_enter Try.func71, Try.ntmps71
  go_wp2_with (go_at_call 131; refine (HP.out _ b0).mono ?_; rintro e w1 ⟨⟨A1, c1, rfl, ho1⟩, hb1⟩; have b1 := Lib.hid (bel_on b0 hb1); have HO := Lib.hid ho1; have hz := hb1.size; obtain ⟨hc, hf⟩ := bcell hb1; clear ho1 hb1)
  have hlt : w.heap.size < w1.heap.size := by simp at hz; omega
  refine bodyPost_ret (v := .agg #[.int .i64 (n : Int), .int .i64 (i : Int), .slice A1 m c1]) (by simp [results, Try.f71, go_sem, hc, hf, hlt]) rfl ⟨⟨A1, c1, rfl, (((HO.out.set_low _ _ (by simp)).set_low _ _ (by simp)).set_low _ _ (by simp)).le_ (by simp)⟩, ?_⟩
  exact ((b1.out.setCell (by simp) _).setCell (by simp) _).setCell (by simp) _

set_option maxHeartbeats 1000000 in
theorem Prove_any (ks : List (List UInt8)) (i : Int) (A : Option Addr) (c : Nat) (w : World) {n : Nat} (hn : ks.length = n) (h : KR w A c ks) :
    Calls Try.prog 20 #[.slice A n c, .int .i64 i] w fun e w' => PrEnd w.heap.size (proveS ks i).a (proveS ks i).b (proveS ks i).P (proveS ks i).e e w' ∧ Below w.heap.size w w' := by
  have hnl : (n : Int) ≤ 140737488351232 := by have := h.len; omega
  have b0 := alloc_bel w (.cells #[.int .i64 0, .int .i64 0, .slice none 0 0] 52)
  rcases (by omega : 128 < n ∨ (n ≤ 128 ∧ i < 0) ∨ (n ≤ 128 ∧ 0 ≤ i ∧ (n : Int) ≤ i) ∨ (n ≤ 128 ∧ 0 ≤ i ∧ i < (n : Int))) with hw | ⟨hw, hl⟩ | ⟨hw, hl, hh⟩ | ⟨hw, hl, hh⟩
  all_goals have hwi : (n : Int) ≤ 128 ∨ 128 < (n : Int) := by omega
  · have hw2 : 128 < (n : Int) := by omega
    have HS : Hid (proveS ks i = ⟨0, 0, [], 4⟩) := by unfold Hid proveS; rw [if_pos (by omega)]
    clear hn h hw hwi
    go_enter Try.func20, Try.ntmps20
    go_wp2
    exact bodyPost_ret (v := .tuple #[.agg #[.int .i64 0, .int .i64 0, .slice none 0 0], .int .i64 4]) (by simp [results, Try.f20, go_sem]) rfl ⟨⟨none, 0, by rw [HS.out]; rfl, by rw [HS.out]; exact OK16.nil _ _⟩, b0⟩
  · have hw2 : (n : Int) ≤ 128 := by omega
    have HS : Hid (proveS ks i = ⟨0, 0, [], 2⟩) := by unfold Hid proveS; rw [if_neg (by omega), if_pos (by omega)]
    clear hn h hw hwi
    go_enter Try.func20, Try.ntmps20
    go_wp2
    exact bodyPost_ret (v := .tuple #[.agg #[.int .i64 0, .int .i64 0, .slice none 0 0], .int .i64 2]) (by simp [results, Try.f20, go_sem]) rfl ⟨⟨none, 0, by rw [HS.out]; rfl, by rw [HS.out]; exact OK16.nil _ _⟩, b0⟩
  · have hw2 : (n : Int) ≤ 128 := by omega
    have HS : Hid (proveS ks i = ⟨0, 0, [], 2⟩) := by unfold Hid proveS; rw [if_neg (by omega), if_pos (by omega)]
    clear hn h hw hwi
    go_enter Try.func20, Try.ntmps20
    go_wp2
    exact bodyPost_ret (v := .tuple #[.agg #[.int .i64 0, .int .i64 0, .slice none 0 0], .int .i64 2]) (by simp [results, Try.f20, go_sem]) rfl ⟨⟨none, 0, by rw [HS.out]; rfl, by rw [HS.out]; exact OK16.nil _ _⟩, b0⟩
  · have hw2 : (n : Int) ≤ 128 := by omega
    have HS : Hid (proveS ks i = ⟨n, i, pathS ks i.toNat, 0⟩) := by unfold Hid proveS; rw [if_neg (by omega), if_neg (by omega), hn]
    obtain ⟨j, rfl⟩ : ∃ j : Nat, i = (j : Int) := ⟨i.toNat, by omega⟩
    rw [Int.toNat_natCast] at HS
    have HP : Hid (∀ W, Below w.heap.size w W → Calls Try.prog 70 #[.slice A n c, .int .i64 (j : Int)] W fun e w' => (∃ A' c', e = .returned (.agg #[.int .i64 (n : Int), .int .i64 (j : Int), .slice A' (pathS ks j).length c']) ∧ OK16 W.heap.size w' A' c' (pathS ks j)) ∧ Below W.heap.size W w') := fun W hW => proof_any ks j A c W hn (by omega) (by omega) (h.below hW)
    generalize pathS ks j = P at HP HS
    obtain ⟨m, hm⟩ : ∃ m, P.length = m := ⟨_, rfl⟩
    rw [hm] at HP
    have HM := Lib.hid hm
    clear hn h hw hwi hm
    go_enter Try.func20, Try.ntmps20
    go_wp2_with (go_at_call 70; refine (HP.out _ b0).mono ?_; rintro e w1 ⟨⟨A1, c1, rfl, ho1⟩, hb1⟩; have b1 := Lib.hid (bel_on b0 hb1); have HO := Lib.hid ho1; have hz := hb1.size; obtain ⟨hc, hf⟩ := bcell hb1; clear ho1 hb1)
    have hlt : w.heap.size < w1.heap.size := by simp at hz; omega
    refine bodyPost_ret (v := .tuple #[.agg #[.int .i64 (n : Int), .int .i64 (j : Int), .slice A1 m c1], .int .i64 0]) (by simp [results, Try.f20, go_sem, hc, hf, hlt]) rfl ⟨⟨A1, c1, by rw [HS.out]; show _ = Ending.returned (.tuple #[.agg #[.int .i64 (n : Int), .int .i64 (j : Int), .slice A1 P.length c1], .int .i64 0]); rw [HM.out], by rw [HS.out]; exact (((HO.out.set_low _ _ (by simp)).set_low _ _ (by simp)).set_low _ _ (by simp)).le_ (by simp)⟩, ?_⟩
    exact ((b1.out.setCell (by simp) _).setCell (by simp) _).setCell (by simp) _

set_option maxHeartbeats 1000000 in
theorem refProve_any (ks : List (List UInt8)) (i : Int) (A : Option Addr) (c : Nat) (w : World) {n : Nat} (hn : ks.length = n) (h : KR w A c ks) :
    Calls Try.prog 21 #[.slice A n c, .int .i64 i] w fun e w' => PrEnd w.heap.size (proveS ks i).a (proveS ks i).b (proveS ks i).P (proveS ks i).e e w' ∧ Below w.heap.size w w' := by
  have hnl : (n : Int) ≤ 140737488351232 := by have := h.len; omega
  have b0 := alloc_bel w (.cells #[.int .i64 0, .int .i64 0, .slice none 0 0] 52)
  rcases (by omega : 128 < n ∨ (n ≤ 128 ∧ i < 0) ∨ (n ≤ 128 ∧ 0 ≤ i ∧ (n : Int) ≤ i) ∨ (n ≤ 128 ∧ 0 ≤ i ∧ i < (n : Int))) with hw | ⟨hw, hl⟩ | ⟨hw, hl, hh⟩ | ⟨hw, hl, hh⟩
  all_goals have hwi : (n : Int) ≤ 128 ∨ 128 < (n : Int) := by omega
  · have hw2 : 128 < (n : Int) := by omega
    have HS : Hid (proveS ks i = ⟨0, 0, [], 4⟩) := by unfold Hid proveS; rw [if_pos (by omega)]
    clear hn h hw hwi
    go_enter Try.func21, Try.ntmps21
    go_wp2
    exact bodyPost_ret (v := .tuple #[.agg #[.int .i64 0, .int .i64 0, .slice none 0 0], .int .i64 4]) (by simp [results, Try.f21, go_sem]) rfl ⟨⟨none, 0, by rw [HS.out]; rfl, by rw [HS.out]; exact OK16.nil _ _⟩, b0⟩
  · have hw2 : (n : Int) ≤ 128 := by omega
    have HS : Hid (proveS ks i = ⟨0, 0, [], 2⟩) := by unfold Hid proveS; rw [if_neg (by omega), if_pos (by omega)]
    clear hn h hw hwi
    go_enter Try.func21, Try.ntmps21
    go_wp2
    exact bodyPost_ret (v := .tuple #[.agg #[.int .i64 0, .int .i64 0, .slice none 0 0], .int .i64 2]) (by simp [results, Try.f21, go_sem]) rfl ⟨⟨none, 0, by rw [HS.out]; rfl, by rw [HS.out]; exact OK16.nil _ _⟩, b0⟩
  · have hw2 : (n : Int) ≤ 128 := by omega
    have HS : Hid (proveS ks i = ⟨0, 0, [], 2⟩) := by unfold Hid proveS; rw [if_neg (by omega), if_pos (by omega)]
    clear hn h hw hwi
    go_enter Try.func21, Try.ntmps21
    go_wp2
    exact bodyPost_ret (v := .tuple #[.agg #[.int .i64 0, .int .i64 0, .slice none 0 0], .int .i64 2]) (by simp [results, Try.f21, go_sem]) rfl ⟨⟨none, 0, by rw [HS.out]; rfl, by rw [HS.out]; exact OK16.nil _ _⟩, b0⟩
  · have hw2 : (n : Int) ≤ 128 := by omega
    have HS : Hid (proveS ks i = ⟨n, i, pathS ks i.toNat, 0⟩) := by unfold Hid proveS; rw [if_neg (by omega), if_neg (by omega), hn]
    obtain ⟨j, rfl⟩ : ∃ j : Nat, i = (j : Int) := ⟨i.toNat, by omega⟩
    rw [Int.toNat_natCast] at HS
    have HP : Hid (∀ W, Below w.heap.size w W → Calls Try.prog 71 #[.slice A n c, .int .i64 (j : Int)] W fun e w' => (∃ A' c', e = .returned (.agg #[.int .i64 (n : Int), .int .i64 (j : Int), .slice A' (pathS ks j).length c']) ∧ OK16 W.heap.size w' A' c' (pathS ks j)) ∧ Below W.heap.size W w') := fun W hW => refProofOf_any ks j A c W hn (by omega) (by omega) (h.below hW)
    generalize pathS ks j = P at HP HS
    obtain ⟨m, hm⟩ : ∃ m, P.length = m := ⟨_, rfl⟩
    rw [hm] at HP
    have HM := Lib.hid hm
    clear hn h hw hwi hm
    go_enter Try.func21, Try.ntmps21
    go_wp2_with (go_at_call 71; refine (HP.out _ b0).mono ?_; rintro e w1 ⟨⟨A1, c1, rfl, ho1⟩, hb1⟩; have b1 := Lib.hid (bel_on b0 hb1); have HO := Lib.hid ho1; have hz := hb1.size; obtain ⟨hc, hf⟩ := bcell hb1; clear ho1 hb1)
    have hlt : w.heap.size < w1.heap.size := by simp at hz; omega
    refine bodyPost_ret (v := .tuple #[.agg #[.int .i64 (n : Int), .int .i64 (j : Int), .slice A1 m c1], .int .i64 0]) (by simp [results, Try.f21, go_sem, hc, hf, hlt]) rfl ⟨⟨A1, c1, by rw [HS.out]; show _ = Ending.returned (.tuple #[.agg #[.int .i64 (n : Int), .int .i64 (j : Int), .slice A1 P.length c1], .int .i64 0]); rw [HM.out], by rw [HS.out]; exact (((HO.out.set_low _ _ (by simp)).set_low _ _ (by simp)).set_low _ _ (by simp)).le_ (by simp)⟩, ?_⟩
    exact ((b1.out.setCell (by simp) _).setCell (by simp) _).setCell (by simp) _

set_option maxHeartbeats 1000000 in
theorem refProveGrowth_any (ks : List (List UInt8)) (i : Int) (A : Option Addr) (c : Nat) (w : World) {n : Nat} (hn : ks.length = n) (h : KR w A c ks) :
    Calls Try.prog 24 #[.slice A n c, .int .i64 i] w fun e w' => PrEnd w.heap.size (growthS ks i).a (growthS ks i).b (growthS ks i).P (growthS ks i).e e w' ∧ Below w.heap.size w w' := by
  have hnl : (n : Int) ≤ 140737488351232 := by have := h.len; omega
  have b0 := alloc_bel w (.cells #[.int .i64 0, .int .i64 0, .slice none 0 0] 59)
  rcases (by omega : 128 < n ∨ (n ≤ 128 ∧ i < 1) ∨ (n ≤ 128 ∧ 1 ≤ i ∧ (n : Int) < i) ∨ (n ≤ 128 ∧ 1 ≤ i ∧ i ≤ (n : Int))) with hw | ⟨hw, hl⟩ | ⟨hw, hl, hh⟩ | ⟨hw, hl, hh⟩
  all_goals have hwi : (n : Int) ≤ 128 ∨ 128 < (n : Int) := by omega
  · have hw2 : 128 < (n : Int) := by omega
    have HS : Hid (growthS ks i = ⟨0, 0, [], 4⟩) := by unfold Hid growthS; rw [if_pos (by omega)]
    clear hn h hw hwi
    go_enter Try.func24, Try.ntmps24
    go_wp2
    exact bodyPost_ret (v := .tuple #[.agg #[.int .i64 0, .int .i64 0, .slice none 0 0], .int .i64 4]) (by simp [results, Try.f24, go_sem]) rfl ⟨⟨none, 0, by rw [HS.out]; rfl, by rw [HS.out]; exact OK16.nil _ _⟩, b0⟩
  · have hw2 : (n : Int) ≤ 128 := by omega
    have HS : Hid (growthS ks i = ⟨0, 0, [], 2⟩) := by unfold Hid growthS; rw [if_neg (by omega), if_pos (by omega)]
    clear hn h hw hwi
    go_enter Try.func24, Try.ntmps24
    go_wp2
    exact bodyPost_ret (v := .tuple #[.agg #[.int .i64 0, .int .i64 0, .slice none 0 0], .int .i64 2]) (by simp [results, Try.f24, go_sem]) rfl ⟨⟨none, 0, by rw [HS.out]; rfl, by rw [HS.out]; exact OK16.nil _ _⟩, b0⟩
  · have hw2 : (n : Int) ≤ 128 := by omega
    have HS : Hid (growthS ks i = ⟨0, 0, [], 2⟩) := by unfold Hid growthS; rw [if_neg (by omega), if_pos (by omega)]
    clear hn h hw hwi
    go_enter Try.func24, Try.ntmps24
    go_wp2
    exact bodyPost_ret (v := .tuple #[.agg #[.int .i64 0, .int .i64 0, .slice none 0 0], .int .i64 2]) (by simp [results, Try.f24, go_sem]) rfl ⟨⟨none, 0, by rw [HS.out]; rfl, by rw [HS.out]; exact OK16.nil _ _⟩, b0⟩
  · have hw2 : (n : Int) ≤ 128 := by omega
    have HS : Hid (growthS ks i = ⟨i, n, partS ks i.toNat true, 0⟩) := by unfold Hid growthS; rw [if_neg (by omega), if_neg (by omega), hn]
    obtain ⟨j, rfl⟩ : ∃ j : Nat, i = (j : Int) := ⟨i.toNat, by omega⟩
    rw [Int.toNat_natCast] at HS
    have HP : Hid (∀ W, Below w.heap.size w W → Calls Try.prog 74 #[.slice A n c, .int .i64 (j : Int), .bool true] W fun e w' => (∃ A' c', e = .returned (.slice A' (partS ks j true).length c') ∧ OK16 W.heap.size w' A' c' (partS ks j true)) ∧ Below W.heap.size W w') := fun W hW => refPart_any n ks j true A c W hn (by omega) (by omega) (by omega) (h.below hW)
    generalize partS ks j true = P at HP HS
    obtain ⟨m, hm⟩ : ∃ m, P.length = m := ⟨_, rfl⟩
    rw [hm] at HP
    have HM := Lib.hid hm
    clear hn h hw hwi hm
    go_enter Try.func24, Try.ntmps24
    go_wp2_with (go_at_call 74; refine (HP.out _ b0).mono ?_; rintro e w1 ⟨⟨A1, c1, rfl, ho1⟩, hb1⟩; have b1 := Lib.hid (bel_on b0 hb1); have HO := Lib.hid ho1; have hz := hb1.size; obtain ⟨hc, hf⟩ := bcell hb1; clear ho1 hb1)
    have hlt : w.heap.size < w1.heap.size := by simp at hz; omega
    refine bodyPost_ret (v := .tuple #[.agg #[.int .i64 (j : Int), .int .i64 (n : Int), .slice A1 m c1], .int .i64 0]) (by simp [results, Try.f24, go_sem, hc, hf, hlt]) rfl ⟨⟨A1, c1, by rw [HS.out]; show _ = Ending.returned (.tuple #[.agg #[.int .i64 (j : Int), .int .i64 (n : Int), .slice A1 P.length c1], .int .i64 0]); rw [HM.out], by rw [HS.out]; exact (((HO.out.set_low _ _ (by simp)).set_low _ _ (by simp)).set_low _ _ (by simp)).le_ (by simp)⟩, ?_⟩
    exact ((b1.out.setCell (by simp) _).setCell (by simp) _).setCell (by simp) _
end Go.Proofs.Ytinpiodfpnbllaa

/- The growth of a list: the program's. -/
namespace Go.Proofs.Ytinpiodfpnbllaa
open Go.RowKit
set_option linter.unusedVariables false
set_option linter.unusedSimpArgs false

theorem OK16.set_apart {B : Nat} {w : World} {A : Option Addr} {c : Nat} {ks : List (List UInt8)} (h : OK16 B w A c ks) (p : Addr) (u : Value) (hp : p.block < B) : OK16 B (w.setCell p u) A c ks := h.set_low p u hp
theorem blk3_set {w : World} {g : Nat} {t : TypeId} {x y z : Value} (h : Blk w g t #[x, y, z]) (u : Value) : Blk (w.setCell ⟨g, 2, none⟩ u) g t #[x, y, u] := by simpa using h.set_ 2 u

theorem op_skip {P : Program} {ops : Array Oper} {Q : Exit → Act → World → Prop} {a : Act} {w : World} {i : Nat} {oi : Oper} {K : Act → World → Prop} (w' : World) (hi : ops[i]? = some oi) (hg : oi.guard = none) (hrun : (execOp a.eval oi).run P w = .ok .skip w')
    (h : K (a.put oi.dst undef) w') : wpOp P ops Q i K a w := by
  have hw : Region.wanted oi (yielded ops a.tmps) = true := by simp [Region.wanted, hg]
  unfold wpOp
  simp only [hi, hw, if_true]
  refine .inl ?_
  unfold Oper.wp
  rw [hrun]
  exact h

set_option maxHeartbeats 4000000 in
set_option maxRecDepth 100000 in
theorem ProveGrowth_in (ks : List (List UInt8)) (i : Nat) (A : Option Addr) (c : Nat) (w : World) {n : Nat} (hn : ks.length = n) (hi1 : 1 ≤ i) (hi : i ≤ n) (hbig : n ≤ 128) (h : KR w A c ks) :
    Calls Try.prog 23 #[.slice A n c, .int .i64 (i : Int)] w fun e w' => PrEnd w.heap.size i n (partS ks i true) 0 e w' ∧ Below w.heap.size w w' := by
  obtain ⟨P0, hP0⟩ : ∃ P, P = partS ks i true := ⟨_, rfl⟩
  have HN := Lib.hid hn
  have HI := Lib.hid hi
  have HI1 := Lib.hid hi1
  have HH := Lib.hid h
  have HP0 := Lib.hid hP0
  have HBG := Lib.hid hbig
  have hnb : (n : Int) ≤ 128 := by omega
  have hin : (i : Int) ≤ (n : Int) := by omega
  have hi1i : (1 : Int) ≤ (i : Int) := by omega
  have b0 := (alloc_bel w (.cells #[.int .i64 0, .int .i64 0, .slice none 0 0] 59)).alloc (by simp) (.cells #[.int .i64 (i : Int), .int .i64 (n : Int), .slice none 0 0] 59)
  rw [← hP0]
  clear hP0 hn h hi hbig hi1
  go_enter Try.func23, Try.ntmps23
  go_wp2_with fail
  have hd1 : decide (n < i) = false := decide_eq_false (by have := HI.out; omega)
  simp only [hd1, Bool.or_false]
  clear hd1
  go_loopw [0, 1, 7] (fun v0 v1 v7 wr => ∃ (ls : List (List UInt8)) (m : Nat) (j : Nat) (B : Option Addr) (d : Nat) (os : List (List UInt8)) (q : Nat) (O : Option Addr) (co : Nat) (wh : Bool), v0 = .slice B m d ∧ v1 = .int .i64 (j : Int) ∧ v7 = .bool wh ∧ ls.length = m ∧ os.length = q ∧ 1 ≤ j ∧ j ≤ m ∧ m + q ≤ n ∧ KR w B d ls ∧ OK16 (w.heap.size + 2) wr O co os ∧ Keys16 os ∧ P0 = partS ls j wh ++ os.reverse ∧ Blk wr (w.heap.size + 1) 59 #[.int .i64 (i : Int), .int .i64 (n : Int), .slice O q co] ∧ Blk wr w.heap.size 59 #[.int .i64 0, .int .i64 0, .slice none 0 0] ∧ Below w.heap.size w wr) (fun v0 _ _ _ => lenV v0)
  case atStart => exact ⟨ks, n, i, A, c, [], 0, none, 0, true, rfl, rfl, rfl, HN.out, rfl, HI1.out, HI.out, by omega, HH.out, OK16.nil _ _, (by intro k hk; cases hk), (by rw [HP0.out]; simp), by have := Blk.new (w.alloc (.cells #[.int .i64 0, .int .i64 0, .slice none 0 0] 59)) 59 #[.int .i64 (i : Int), .int .i64 (n : Int), .slice none 0 0]; rw [World.size_alloc] at this; exact this, (Blk.new w _ _).alloc _, b0⟩
  case round =>
    obtain ⟨ls, m, j, B, d, os, q, O, co, wh, rfl, rfl, rfl, hls, hos, hj1, hj, hmq, hkr, hok, hk16, hP, hg, hr, hb⟩ := hrel
    have hbig := HBG.out
    have HB := Lib.hid hb
    have HOK := Lib.hid hok
    have HOS := Lib.hid hos
    have HKK := Lib.hid hk16
    have HG := Lib.hid hg
    have HR := Lib.hid hr
    have hgl : w.heap.size + 1 < wr.heap.size := hg.lt
    by_cases h2 : j < m
    · have hs1 := splitS_pos m
      have hs2 := splitS_lt (n := m) (by omega)
      have hcl : m ≤ d := by have := Rd.le hkr.1; omega
      have hmb : (m : Int) ≤ 128 := by omega
      have hgt : (j : Int) < (m : Int) := by omega
      have HSP : Hid (∀ W, Calls Try.prog 72 #[.int .i64 (m : Int)] W fun e w' => e = .returned (.int .i64 ((splitS m : Nat) : Int)) ∧ W = w') := fun W => split_any m W (by omega) (by omega)
      have hsl1 := fun W => slice_keys_to W B m d (splitS m) (by omega)
      have hsl2 := fun W => slice_keys_from W B m d (splitS m) (by omega)
      by_cases hk : j ≤ splitS m
      · have hjk : (j : Int) ≤ ((splitS m : Nat) : Int) := by omega
        have HPE : Hid (P0 = partS (ls.take (splitS m)) j wh ++ (os ++ [rootS (ls.drop (splitS m))]).reverse) := by unfold Hid; have := partS_low (l := ls) (m := j) wh (by omega) (by omega) (by rw [hls]; exact hk); rw [hls] at this; rw [hP, this]; simp
        have HRL : Hid ((rootS (ls.drop (splitS m))).length = 16) := rootS_length _
        have HLS : Hid ((ls.take (splitS m)).length = splitS m) := by unfold Hid; simp only [List.length_take, List.length_drop]; omega
        have HKR : Hid (KR w B d (ls.take (splitS m))) := hkr.take _ (by omega)
        have HRO : Hid (∀ W, Below wr.heap.size wr W → Calls Try.prog 61 #[.slice (dropK B (splitS m) d) (m - splitS m) (d - splitS m)] W fun e w' => e = .returned (.agg (cellsB (rootS (ls.drop (splitS m)))).toArray) ∧ Below W.heap.size W w') := fun W hW => root_any _ _ _ W (by rw [List.length_drop]; omega) (by omega) ((hkr.below (bel_on hb hW)).drop _ (by omega))
        generalize rootS (ls.drop (splitS m)) = r at HPE HRL HRO
        generalize ls.take (splitS m) = ls' at HPE HLS HKR
        generalize splitS m = k at *
        clear hP hkr hls hk ls hg hr hok
        go_wp2_with (go_at_call 72; refine (HSP.out _).mono ?_; rintro e w1 ⟨rfl, rfl⟩)
        refine wp_region_noPanic ?_
        refine wp_region_held_drew (S := fun _ => True) (by kernel_rfl) trivial (fun hS => ?_)
        refine hd_take 0 (_) rfl rfl (by kernel_rfl) (by kernel_rfl) (by kernel_rfl) (fun _ _ _ h => h) (fun w _ => by go_simp <;> rfl) hS ?_
        refine hd_take 2 (_) rfl rfl (by kernel_rfl) (by kernel_rfl) (by kernel_rfl) (fun _ _ _ h => h) (fun w _ => by go_simp <;> rfl) hS ?_
        refine hd_take 3 (_) rfl rfl (by kernel_rfl) (by kernel_rfl) (by kernel_rfl) (fun _ _ _ h => h) (fun w _ => by go_simp <;> rfl) hS ?_
        refine hd_take 8 (_) rfl rfl (by kernel_rfl) (by kernel_rfl) (by kernel_rfl) (fun _ _ _ h => h) (fun w _ => by go_simp <;> rfl) hS ?_
        refine hd_take 9 (_) rfl rfl (by kernel_rfl) (by kernel_rfl) (by kernel_rfl) (fun _ _ _ h => h) (fun w _ => by go_simp <;> rfl) hS ?_
        simp only [List.getElem_toArray, List.getElem_cons_succ, List.getElem_cons_zero, Act.put, List.setIfInBounds_toArray, List.set_cons_zero, List.set_cons_succ]
        refine hd_take 4 (_) rfl rfl (by kernel_rfl) (by kernel_rfl) (by kernel_rfl) (fun _ _ _ h => h) (fun w _ => by go_simp <;> rfl) hS ?_
        refine hd_take 10 (_) rfl rfl (by kernel_rfl) (by kernel_rfl) (by kernel_rfl) (fun _ _ _ h => h) (fun w _ => by go_simp <;> rfl) hS ?_
        simp only [List.getElem_toArray, List.getElem_cons_succ, List.getElem_cons_zero, Act.put, List.setIfInBounds_toArray, List.set_cons_zero, List.set_cons_succ]
        have LC : wr.drew.cell? ⟨w.heap.size + 1, 2, none⟩ = some (.slice O q co) := HG.out.cell 2
        refine' (fun (HIN : ∀ w4, Below wr.drew.heap.size wr.drew w4 → (_ : World → Prop) w4) => _) _
        rotate_left
        · refine hd_two 1 5 (by kernel_rfl) (op_run (.slice O q co) wr.drew rfl rfl (by simp [go_sem, LC]) ⟨trivial, ?_⟩) (op_call 61 #[.slice (dropK B k d) (m - k) (d - k)] rfl rfl (by go_simp) ((HRO.out _ (Below.refl _ _).drew).mono ?_))
          · simp only [List.getElem_toArray, List.getElem_cons_succ, List.getElem_cons_zero, Act.put, List.setIfInBounds_toArray, List.set_cons_zero, List.set_cons_succ]
            refine hd_calls 5 61 #[.slice (dropK B k d) (m - k) (d - k)] rfl rfl (by kernel_rfl) (by go_simp) ((HRO.out _ (Below.refl _ _).drew).mono ?_)
            rintro e w4 ⟨rfl, hb4⟩
            refine ⟨_, rfl, trivial, ?_⟩
            simp only [List.getElem_toArray, List.getElem_cons_succ, List.getElem_cons_zero, Act.put, List.setIfInBounds_toArray, List.set_cons_zero, List.set_cons_succ]
            refine hd_sole 6 (by kernel_rfl) (op_buildKey r _ HRL.out rfl rfl rfl rfl ⟨trivial, ?_⟩)
            simp only [List.getElem_toArray, List.getElem_cons_succ, List.getElem_cons_zero, Act.put, List.setIfInBounds_toArray, List.set_cons_zero, List.set_cons_succ]
            exact HIN w4 hb4
          · rintro e w4 ⟨rfl, hb4⟩
            refine ⟨_, rfl, trivial, ?_⟩
            simp only [List.getElem_toArray, List.getElem_cons_succ, List.getElem_cons_zero, Act.put, List.setIfInBounds_toArray, List.set_cons_zero, List.set_cons_succ]
            have LC4 : w4.cell? ⟨w.heap.size + 1, 2, none⟩ = some (.slice O q co) := (hb4.cell (p := ⟨w.heap.size + 1, 2, none⟩) hgl).trans LC
            have LC5 : (w4.alloc (.cells (cellsB r).toArray 23)).cell? ⟨w.heap.size + 1, 2, none⟩ = some (.slice O q co) := ((alloc_bel w4 _).cell (p := ⟨w.heap.size + 1, 2, none⟩) (Nat.lt_of_lt_of_le hgl hb4.size)).trans LC4
            refine hd_two 1 6 (by kernel_rfl) (op_run (.slice O q co) w4 rfl rfl (by simp [go_sem, LC4]) ⟨trivial, ?_⟩) (op_buildKey r _ HRL.out rfl rfl rfl rfl ⟨trivial, ?_⟩)
            · simp only [List.getElem_toArray, List.getElem_cons_succ, List.getElem_cons_zero, Act.put, List.setIfInBounds_toArray, List.set_cons_zero, List.set_cons_succ]
              refine hd_sole 6 (by kernel_rfl) (op_buildKey r _ HRL.out rfl rfl rfl rfl ⟨trivial, ?_⟩)
              simp only [List.getElem_toArray, List.getElem_cons_succ, List.getElem_cons_zero, Act.put, List.setIfInBounds_toArray, List.set_cons_zero, List.set_cons_succ]
              exact HIN w4 hb4
            · simp only [List.getElem_toArray, List.getElem_cons_succ, List.getElem_cons_zero, Act.put, List.setIfInBounds_toArray, List.set_cons_zero, List.set_cons_succ]
              refine hd_sole 1 (by kernel_rfl) (op_run (.slice O q co) _ rfl rfl (by simp [go_sem, LC5] <;> rfl) ⟨trivial, ?_⟩)
              simp only [List.getElem_toArray, List.getElem_cons_succ, List.getElem_cons_zero, Act.put, List.setIfInBounds_toArray, List.set_cons_zero, List.set_cons_succ]
              exact HIN w4 hb4
        · intro w4 hb4
          have b4 : Below wr.heap.size wr w4 := bel_on (Below.refl _ _).drew hb4
          have ho4 := HOK.out.below b4
          have hg4 := HG.out.below' b4
          have hr4 := HR.out.below' b4
          have ho5 := ho4.below (alloc_bel w4 (.cells (cellsB r).toArray 23))
          have hg5 := hg4.alloc (.cells (cellsB r).toArray 23)
          have hr5 := hr4.alloc (.cells (cellsB r).toArray 23)
          have b5 := b4.alloc b4.size (.cells (cellsB r).toArray 23)
          have hsrc := src_key w4 HRL.out
          have hz5 : w.heap.size + 2 ≤ (w4.alloc (.cells (cellsB r).toArray 23)).heap.size := by have := b5.size; omega
          refine hd_appendK 7 (.tmp 37) (.tmp 42) rfl rfl rfl (by kernel_rfl) (w.heap.size + 2) O q co os HOS.out rfl ho5 _ 1 1 [r] rfl rfl hsrc (by omega) hz5 ?_
          intro A6 c6 w6 ho6 hb6
          have hg6 := hg5.below hb6 (by omega)
          have hr6 := hr5.below hb6 (by omega)
          refine ⟨trivial, ?_⟩
          simp only [List.getElem_toArray, List.getElem_cons_succ, List.getElem_cons_zero, Act.put, List.setIfInBounds_toArray, List.set_cons_zero, List.set_cons_succ]
          refine hd_take 11 (.pointer (some ⟨w.heap.size + 1, 2, none⟩)) rfl rfl (by kernel_rfl) (by kernel_rfl) (by kernel_rfl) (fun _ _ _ h => h) (fun w _ => by go_simp) trivial ?_
          simp only [List.getElem_toArray, List.getElem_cons_succ, List.getElem_cons_zero, Act.put, List.setIfInBounds_toArray, List.set_cons_zero, List.set_cons_succ]
          have hc6 : (w6.cell? ⟨w.heap.size + 1, 2, none⟩) = some (.slice O q co) := hg6.cell 2
          have hf6 : w6.frozen? ⟨w.heap.size + 1, 2, none⟩ = false := hg6.frozen 2
          refine hd_sole 12 (by kernel_rfl) (op_skip (w6.setCell ⟨w.heap.size + 1, 2, none⟩ (.slice A6 (q + 1) c6)) rfl rfl (by simp [go_sem, hc6, hf6]) ⟨trivial, ?_⟩)
          simp only [List.getElem_toArray, List.getElem_cons_succ, List.getElem_cons_zero, Act.put, List.setIfInBounds_toArray, List.set_cons_zero, List.set_cons_succ]
          have ho7 := ho6.set_low ⟨w.heap.size + 1, 2, none⟩ (.slice A6 (q + 1) c6) (by simp)
          have hg7 := blk3_set hg6 (.slice A6 (q + 1) c6)
          have hr7 := hr6.far (p := ⟨w.heap.size + 1, 2, none⟩) (by simp) (.slice A6 (q + 1) c6)
          have HO7 := Lib.hid ho7
          have HG7 := Lib.hid hg7
          have HR7 := Lib.hid hr7
          have b7 : Below w.heap.size w (w6.setCell ⟨w.heap.size + 1, 2, none⟩ (.slice A6 (q + 1) c6)) := ((HB.out.trans (Below.mono b5 HB.out.size)).trans (hb6.mono (by omega))).setCell (by simp) _
          generalize w6.setCell ⟨w.heap.size + 1, 2, none⟩ (.slice A6 (q + 1) c6) = w7 at *
          clear ho7 hg7 hr7 ho6 hg6 hr6 ho5 hg5 hr5 ho4 hg4 hr4 hsrc hc6 hf6
          refine hd_take 13 (_) rfl rfl (by kernel_rfl) (by kernel_rfl) (by kernel_rfl) (fun _ _ _ h => h) (fun w _ => by go_simp <;> rfl) trivial ?_
          simp only [List.getElem_toArray, List.getElem_cons_succ, List.getElem_cons_zero, Act.put, List.setIfInBounds_toArray, List.set_cons_zero, List.set_cons_succ]
          refine wpAnyH_done (by kernel_rfl) (NoPanic.normal ?_) _
          go_wp2_with fail
          go_roundw
          case rel => exact ⟨_, k, j, B, d, os ++ [r], q + 1, A6, c6, wh, rfl, rfl, rfl, HLS.out, by rw [List.length_append, HOS.out]; rfl, hj1, by omega, by omega, HKR.out, HO7.out, HKK.out.snoc HRL.out, HPE.out, HG7.out, HR7.out, b7⟩
          case measure => simp only [lenV]; omega
      · have hjk : ¬ (j : Int) ≤ ((splitS m : Nat) : Int) := by omega
        have hjk2 : ((splitS m : Nat) : Int) < (j : Int) := by omega
        have hwj : IntKind.i64.wrap ((j : Int) - ((splitS m : Nat) : Int)) = (j : Int) - ((splitS m : Nat) : Int) := by rw [IntKind.wrap_i64]; omega
        have HPE : Hid (P0 = partS (ls.drop (splitS m)) (j - splitS m) false ++ (os ++ [rootS (ls.take (splitS m))]).reverse) := by unfold Hid; have := partS_high (l := ls) (m := j) wh (by omega) (by omega) (by rw [hls]; exact hk); rw [hls] at this; rw [hP, this]; simp
        have HRL : Hid ((rootS (ls.take (splitS m))).length = 16) := rootS_length _
        have HLS : Hid ((ls.drop (splitS m)).length = m - splitS m) := by unfold Hid; simp only [List.length_take, List.length_drop]; omega
        have HKR : Hid (KR w (dropK B (splitS m) d) (d - splitS m) (ls.drop (splitS m))) := hkr.drop _ (by omega)
        have HRO : Hid (∀ W, Below wr.heap.size wr W → Calls Try.prog 61 #[.slice B (splitS m) d] W fun e w' => e = .returned (.agg (cellsB (rootS (ls.take (splitS m)))).toArray) ∧ Below W.heap.size W w') := fun W hW => root_any _ _ _ W (by rw [List.length_take]; omega) (by omega) ((hkr.below (bel_on hb hW)).take _ (by omega))
        generalize rootS (ls.take (splitS m)) = r at HPE HRL HRO
        generalize ls.drop (splitS m) = ls' at HPE HLS HKR
        generalize splitS m = k at *
        clear hP hkr hls hk ls hg hr hok
        go_wp2_with (go_at_call 72; refine (HSP.out _).mono ?_; rintro e w1 ⟨rfl, rfl⟩)
        refine wp_region_noPanic ?_
        refine wp_region_held_drew (S := fun _ => True) (by kernel_rfl) trivial (fun hS => ?_)
        refine hd_take 0 (_) rfl rfl (by kernel_rfl) (by kernel_rfl) (by kernel_rfl) (fun _ _ _ h => h) (fun w _ => by go_simp <;> rfl) hS ?_
        refine hd_take 2 (_) rfl rfl (by kernel_rfl) (by kernel_rfl) (by kernel_rfl) (fun _ _ _ h => h) (fun w _ => by go_simp <;> rfl) hS ?_
        refine hd_take 3 (_) rfl rfl (by kernel_rfl) (by kernel_rfl) (by kernel_rfl) (fun _ _ _ h => h) (fun w _ => by go_simp <;> rfl) hS ?_
        refine hd_take 8 (_) rfl rfl (by kernel_rfl) (by kernel_rfl) (by kernel_rfl) (fun _ _ _ h => h) (fun w _ => by go_simp <;> rfl) hS ?_
        refine hd_take 9 (_) rfl rfl (by kernel_rfl) (by kernel_rfl) (by kernel_rfl) (fun _ _ _ h => h) (fun w _ => by go_simp <;> rfl) hS ?_
        refine hd_take 11 (_) rfl rfl (by kernel_rfl) (by kernel_rfl) (by kernel_rfl) (fun _ _ _ h => h) (fun w _ => by go_simp <;> rfl) hS ?_
        refine hd_take 12 (_) rfl rfl (by kernel_rfl) (by kernel_rfl) (by kernel_rfl) (fun _ _ _ h => h) (fun w _ => by go_simp <;> rfl) hS ?_
        simp only [List.getElem_toArray, List.getElem_cons_succ, List.getElem_cons_zero, Act.put, List.setIfInBounds_toArray, List.set_cons_zero, List.set_cons_succ]
        refine hd_take 4 (_) rfl rfl (by kernel_rfl) (by kernel_rfl) (by kernel_rfl) (fun _ _ _ h => h) (fun w _ => by go_simp <;> rfl) hS ?_
        refine hd_take 10 (_) rfl rfl (by kernel_rfl) (by kernel_rfl) (by kernel_rfl) (fun _ _ _ h => h) (fun w _ => by go_simp <;> rfl) hS ?_
        refine hd_take 13 (_) rfl rfl (by kernel_rfl) (by kernel_rfl) (by kernel_rfl) (fun _ _ _ h => h) (fun w _ => by go_simp <;> rfl) hS ?_
        simp only [List.getElem_toArray, List.getElem_cons_succ, List.getElem_cons_zero, Act.put, List.setIfInBounds_toArray, List.set_cons_zero, List.set_cons_succ]
        have LC : wr.drew.cell? ⟨w.heap.size + 1, 2, none⟩ = some (.slice O q co) := HG.out.cell 2
        refine' (fun (HIN : ∀ w4, Below wr.drew.heap.size wr.drew w4 → (_ : World → Prop) w4) => _) _
        rotate_left
        · refine hd_two 1 5 (by kernel_rfl) (op_run (.slice O q co) wr.drew rfl rfl (by simp [go_sem, LC]) ⟨trivial, ?_⟩) (op_call 61 #[.slice B k d] rfl rfl (by go_simp) ((HRO.out _ (Below.refl _ _).drew).mono ?_))
          · simp only [List.getElem_toArray, List.getElem_cons_succ, List.getElem_cons_zero, Act.put, List.setIfInBounds_toArray, List.set_cons_zero, List.set_cons_succ]
            refine hd_calls 5 61 #[.slice B k d] rfl rfl (by kernel_rfl) (by go_simp) ((HRO.out _ (Below.refl _ _).drew).mono ?_)
            rintro e w4 ⟨rfl, hb4⟩
            refine ⟨_, rfl, trivial, ?_⟩
            simp only [List.getElem_toArray, List.getElem_cons_succ, List.getElem_cons_zero, Act.put, List.setIfInBounds_toArray, List.set_cons_zero, List.set_cons_succ]
            refine hd_sole 6 (by kernel_rfl) (op_buildKey r _ HRL.out rfl rfl rfl rfl ⟨trivial, ?_⟩)
            simp only [List.getElem_toArray, List.getElem_cons_succ, List.getElem_cons_zero, Act.put, List.setIfInBounds_toArray, List.set_cons_zero, List.set_cons_succ]
            exact HIN w4 hb4
          · rintro e w4 ⟨rfl, hb4⟩
            refine ⟨_, rfl, trivial, ?_⟩
            simp only [List.getElem_toArray, List.getElem_cons_succ, List.getElem_cons_zero, Act.put, List.setIfInBounds_toArray, List.set_cons_zero, List.set_cons_succ]
            have LC4 : w4.cell? ⟨w.heap.size + 1, 2, none⟩ = some (.slice O q co) := (hb4.cell (p := ⟨w.heap.size + 1, 2, none⟩) hgl).trans LC
            have LC5 : (w4.alloc (.cells (cellsB r).toArray 23)).cell? ⟨w.heap.size + 1, 2, none⟩ = some (.slice O q co) := ((alloc_bel w4 _).cell (p := ⟨w.heap.size + 1, 2, none⟩) (Nat.lt_of_lt_of_le hgl hb4.size)).trans LC4
            refine hd_two 1 6 (by kernel_rfl) (op_run (.slice O q co) w4 rfl rfl (by simp [go_sem, LC4]) ⟨trivial, ?_⟩) (op_buildKey r _ HRL.out rfl rfl rfl rfl ⟨trivial, ?_⟩)
            · simp only [List.getElem_toArray, List.getElem_cons_succ, List.getElem_cons_zero, Act.put, List.setIfInBounds_toArray, List.set_cons_zero, List.set_cons_succ]
              refine hd_sole 6 (by kernel_rfl) (op_buildKey r _ HRL.out rfl rfl rfl rfl ⟨trivial, ?_⟩)
              simp only [List.getElem_toArray, List.getElem_cons_succ, List.getElem_cons_zero, Act.put, List.setIfInBounds_toArray, List.set_cons_zero, List.set_cons_succ]
              exact HIN w4 hb4
            · simp only [List.getElem_toArray, List.getElem_cons_succ, List.getElem_cons_zero, Act.put, List.setIfInBounds_toArray, List.set_cons_zero, List.set_cons_succ]
              refine hd_sole 1 (by kernel_rfl) (op_run (.slice O q co) _ rfl rfl (by simp [go_sem, LC5] <;> rfl) ⟨trivial, ?_⟩)
              simp only [List.getElem_toArray, List.getElem_cons_succ, List.getElem_cons_zero, Act.put, List.setIfInBounds_toArray, List.set_cons_zero, List.set_cons_succ]
              exact HIN w4 hb4
        · intro w4 hb4
          have b4 : Below wr.heap.size wr w4 := bel_on (Below.refl _ _).drew hb4
          have ho4 := HOK.out.below b4
          have hg4 := HG.out.below' b4
          have hr4 := HR.out.below' b4
          have ho5 := ho4.below (alloc_bel w4 (.cells (cellsB r).toArray 23))
          have hg5 := hg4.alloc (.cells (cellsB r).toArray 23)
          have hr5 := hr4.alloc (.cells (cellsB r).toArray 23)
          have b5 := b4.alloc b4.size (.cells (cellsB r).toArray 23)
          have hsrc := src_key w4 HRL.out
          have hz5 : w.heap.size + 2 ≤ (w4.alloc (.cells (cellsB r).toArray 23)).heap.size := by have := b5.size; omega
          refine hd_appendK 7 (.tmp 49) (.tmp 54) rfl rfl rfl (by kernel_rfl) (w.heap.size + 2) O q co os HOS.out rfl ho5 _ 1 1 [r] rfl rfl hsrc (by omega) hz5 ?_
          intro A6 c6 w6 ho6 hb6
          have hg6 := hg5.below hb6 (by omega)
          have hr6 := hr5.below hb6 (by omega)
          refine ⟨trivial, ?_⟩
          simp only [List.getElem_toArray, List.getElem_cons_succ, List.getElem_cons_zero, Act.put, List.setIfInBounds_toArray, List.set_cons_zero, List.set_cons_succ]
          refine hd_take 14 (.pointer (some ⟨w.heap.size + 1, 2, none⟩)) rfl rfl (by kernel_rfl) (by kernel_rfl) (by kernel_rfl) (fun _ _ _ h => h) (fun w _ => by go_simp) trivial ?_
          simp only [List.getElem_toArray, List.getElem_cons_succ, List.getElem_cons_zero, Act.put, List.setIfInBounds_toArray, List.set_cons_zero, List.set_cons_succ]
          have hc6 : (w6.cell? ⟨w.heap.size + 1, 2, none⟩) = some (.slice O q co) := hg6.cell 2
          have hf6 : w6.frozen? ⟨w.heap.size + 1, 2, none⟩ = false := hg6.frozen 2
          refine hd_sole 15 (by kernel_rfl) (op_skip (w6.setCell ⟨w.heap.size + 1, 2, none⟩ (.slice A6 (q + 1) c6)) rfl rfl (by simp [go_sem, hc6, hf6]) ⟨trivial, ?_⟩)
          simp only [List.getElem_toArray, List.getElem_cons_succ, List.getElem_cons_zero, Act.put, List.setIfInBounds_toArray, List.set_cons_zero, List.set_cons_succ]
          have ho7 := ho6.set_low ⟨w.heap.size + 1, 2, none⟩ (.slice A6 (q + 1) c6) (by simp)
          have hg7 := blk3_set hg6 (.slice A6 (q + 1) c6)
          have hr7 := hr6.far (p := ⟨w.heap.size + 1, 2, none⟩) (by simp) (.slice A6 (q + 1) c6)
          have HO7 := Lib.hid ho7
          have HG7 := Lib.hid hg7
          have HR7 := Lib.hid hr7
          have b7 : Below w.heap.size w (w6.setCell ⟨w.heap.size + 1, 2, none⟩ (.slice A6 (q + 1) c6)) := ((HB.out.trans (Below.mono b5 HB.out.size)).trans (hb6.mono (by omega))).setCell (by simp) _
          generalize w6.setCell ⟨w.heap.size + 1, 2, none⟩ (.slice A6 (q + 1) c6) = w7 at *
          clear ho7 hg7 hr7 ho6 hg6 hr6 ho5 hg5 hr5 ho4 hg4 hr4 hsrc hc6 hf6
          refine hd_take 16 (_) rfl rfl (by kernel_rfl) (by kernel_rfl) (by kernel_rfl) (fun _ _ _ h => h) (fun w _ => by go_simp <;> rfl) trivial ?_
          refine hd_take 17 (_) rfl rfl (by kernel_rfl) (by kernel_rfl) (by kernel_rfl) (fun _ _ _ h => h) (fun w _ => by go_simp <;> rfl) trivial ?_
          refine hd_take 18 (_) rfl rfl (by kernel_rfl) (by kernel_rfl) (by kernel_rfl) (fun _ _ _ h => h) (fun w _ => by go_simp <;> rfl) trivial ?_
          simp only [List.getElem_toArray, List.getElem_cons_succ, List.getElem_cons_zero, Act.put, List.setIfInBounds_toArray, List.set_cons_zero, List.set_cons_succ]
          refine wpAnyH_done (by kernel_rfl) (NoPanic.normal ?_) _
          go_wp2_with fail
          go_roundw
          case rel => exact ⟨_, m - k, j - k, _, _, os ++ [r], q + 1, A6, c6, false, rfl, by rw [show ((j - k : Nat) : Int) = (j : Int) - (k : Int) from by omega], rfl, HLS.out, by rw [List.length_append, HOS.out]; rfl, by omega, by omega, by omega, HKR.out, HO7.out, HKK.out.snoc HRL.out, HPE.out, HG7.out, HR7.out, b7⟩
          case measure => simp only [lenV]; omega
    · obtain rfl : j = m := by omega
      have hmb : (j : Int) ≤ 128 := by omega
      have hge : ¬ (j : Int) < (j : Int) := by omega
      cases wh with
      | true =>
        have hPA : P0 = os.reverse := by rw [hP, ← hls, partS_end]; rfl
        have hoA := hok
        have hkA := hk16
        have hqA := hos
        have hgA := hg
        have hrA := hr
        have hbA := hb
        clear hP hkr hls hos hok hk16 hg hr hb HB HOK HOS HKK HG HR ls
        have HOA := Lib.hid hoA
        have HKA := Lib.hid hkA
        have HPA := Lib.hid hPA
        have HQA := Lib.hid hqA
        have HGA := Lib.hid hgA
        have HRA := Lib.hid hrA
        have HBA := Lib.hid hbA
        have LC : wr.cell? ⟨w.heap.size + 1, 2, none⟩ = some (.slice O q co) := hgA.cell 2
        have HRV : Hid (∀ W, Below wr.heap.size wr W → Calls Try.prog 73 #[.slice O q co] W fun e w' => e = .returned (.tuple #[]) ∧ OK16 (w.heap.size + 2) w' O co P0 ∧ Below (w.heap.size + 2) W w') := fun W hW => by rw [hPA]; exact reverse_any os O co W hqA (hoA.below hW) hkA (by omega)
        have hgl2 : w.heap.size + 1 < wr.heap.size := hgA.lt
        have HPL : Hid (P0.length = q) := by unfold Hid; rw [hPA, List.length_reverse, hqA]
        clear hoA hkA hPA hqA hgA hrA hbA
        go_wp2_with (go_at_call 73; refine (HRV.out _ (Below.refl _ _)).mono ?_; rintro e w2 ⟨rfl, ho2, hb2⟩; have hg2 := HGA.out.below hb2 (by omega); have hr2 := HRA.out.below hb2 (by omega); have c0 : w2.cell? ⟨w.heap.size + 1, 0, none⟩ = some (.int .i64 (i : Int)) := hg2.cell 0; have c1 : w2.cell? ⟨w.heap.size + 1, 1, none⟩ = some (.int .i64 (n : Int)) := hg2.cell 1; have c2 : w2.cell? ⟨w.heap.size + 1, 2, none⟩ = some (.slice O q co) := hg2.cell 2; have r0 : w2.cell? ⟨w.heap.size, 0, none⟩ = some (.int .i64 0) := hr2.cell 0; have r1 : w2.cell? ⟨w.heap.size, 1, none⟩ = some (.int .i64 0) := hr2.cell 1; have r2 : w2.cell? ⟨w.heap.size, 2, none⟩ = some (.slice none 0 0) := hr2.cell 2; have f0 := hr2.frozen 0; have f1 := hr2.frozen 1; have f2 := hr2.frozen 2; have HO2 := Lib.hid ho2; have HB2 := Lib.hid (HBA.out.trans (hb2.mono (by omega))); clear ho2 hb2 hg2 hr2)
        refine bodyPost_ret (v := .tuple #[.agg #[.int .i64 (i : Int), .int .i64 (n : Int), .slice O q co], .int .i64 0]) (by simp [results, Try.f23, go_sem, c0, c1, c2, r0, r1, r2]) rfl ⟨⟨O, co, by show _ = Ending.returned (.tuple #[.agg #[.int .i64 (i : Int), .int .i64 (n : Int), .slice O P0.length co], .int .i64 0]); rw [HPL.out], (((HO2.out.set_low _ _ (by simp)).set_low _ _ (by simp)).set_low _ _ (by simp)).le_ (by omega)⟩, ((HB2.out.setCell (by simp) _).setCell (by simp) _).setCell (by simp) _⟩
      | false =>
        have HPE : Hid (P0 = (os ++ [rootS ls]).reverse) := by unfold Hid; rw [hP, ← hls, partS_end]; simp
        have HRL : Hid ((rootS ls).length = 16) := rootS_length _
        have HRO : Hid (∀ W, Below wr.heap.size wr W → Calls Try.prog 61 #[.slice B j d] W fun e w' => e = .returned (.agg (cellsB (rootS ls)).toArray) ∧ Below W.heap.size W w') := fun W hW => root_any _ _ _ W hls (by omega) (hkr.below (bel_on hb hW))
        generalize rootS ls = r at HPE HRL HRO
        clear hP hkr hls ls hg hr hok
        go_wp2_with fail
        refine wp_region_noPanic ?_
        refine wp_region_held_drew (S := fun _ => True) (by kernel_rfl) trivial (fun hS => ?_)
        refine hd_take 0 (_) rfl rfl (by kernel_rfl) (by kernel_rfl) (by kernel_rfl) (fun _ _ _ h => h) (fun w _ => by go_simp <;> rfl) hS ?_
        refine hd_take 2 (_) rfl rfl (by kernel_rfl) (by kernel_rfl) (by kernel_rfl) (fun _ _ _ h => h) (fun w _ => by go_simp <;> rfl) hS ?_
        simp only [List.getElem_toArray, List.getElem_cons_succ, List.getElem_cons_zero, Act.put, List.setIfInBounds_toArray, List.set_cons_zero, List.set_cons_succ]
        have LC : wr.drew.cell? ⟨w.heap.size + 1, 2, none⟩ = some (.slice O q co) := HG.out.cell 2
        refine' (fun (HIN : ∀ w4, Below wr.drew.heap.size wr.drew w4 → (_ : World → Prop) w4) => _) _
        rotate_left
        · refine hd_two 1 3 (by kernel_rfl) (op_run (.slice O q co) wr.drew rfl rfl (by simp [go_sem, LC]) ⟨trivial, ?_⟩) (op_call 61 #[.slice B j d] rfl rfl (by go_simp) ((HRO.out _ (Below.refl _ _).drew).mono ?_))
          · simp only [List.getElem_toArray, List.getElem_cons_succ, List.getElem_cons_zero, Act.put, List.setIfInBounds_toArray, List.set_cons_zero, List.set_cons_succ]
            refine hd_calls 3 61 #[.slice B j d] rfl rfl (by kernel_rfl) (by go_simp) ((HRO.out _ (Below.refl _ _).drew).mono ?_)
            rintro e w4 ⟨rfl, hb4⟩
            refine ⟨_, rfl, trivial, ?_⟩
            simp only [List.getElem_toArray, List.getElem_cons_succ, List.getElem_cons_zero, Act.put, List.setIfInBounds_toArray, List.set_cons_zero, List.set_cons_succ]
            refine hd_sole 4 (by kernel_rfl) (op_buildKey r _ HRL.out rfl rfl rfl rfl ⟨trivial, ?_⟩)
            simp only [List.getElem_toArray, List.getElem_cons_succ, List.getElem_cons_zero, Act.put, List.setIfInBounds_toArray, List.set_cons_zero, List.set_cons_succ]
            exact HIN w4 hb4
          · rintro e w4 ⟨rfl, hb4⟩
            refine ⟨_, rfl, trivial, ?_⟩
            simp only [List.getElem_toArray, List.getElem_cons_succ, List.getElem_cons_zero, Act.put, List.setIfInBounds_toArray, List.set_cons_zero, List.set_cons_succ]
            have LC4 : w4.cell? ⟨w.heap.size + 1, 2, none⟩ = some (.slice O q co) := (hb4.cell (p := ⟨w.heap.size + 1, 2, none⟩) hgl).trans LC
            have LC5 : (w4.alloc (.cells (cellsB r).toArray 23)).cell? ⟨w.heap.size + 1, 2, none⟩ = some (.slice O q co) := ((alloc_bel w4 _).cell (p := ⟨w.heap.size + 1, 2, none⟩) (Nat.lt_of_lt_of_le hgl hb4.size)).trans LC4
            refine hd_two 1 4 (by kernel_rfl) (op_run (.slice O q co) w4 rfl rfl (by simp [go_sem, LC4]) ⟨trivial, ?_⟩) (op_buildKey r _ HRL.out rfl rfl rfl rfl ⟨trivial, ?_⟩)
            · simp only [List.getElem_toArray, List.getElem_cons_succ, List.getElem_cons_zero, Act.put, List.setIfInBounds_toArray, List.set_cons_zero, List.set_cons_succ]
              refine hd_sole 4 (by kernel_rfl) (op_buildKey r _ HRL.out rfl rfl rfl rfl ⟨trivial, ?_⟩)
              simp only [List.getElem_toArray, List.getElem_cons_succ, List.getElem_cons_zero, Act.put, List.setIfInBounds_toArray, List.set_cons_zero, List.set_cons_succ]
              exact HIN w4 hb4
            · simp only [List.getElem_toArray, List.getElem_cons_succ, List.getElem_cons_zero, Act.put, List.setIfInBounds_toArray, List.set_cons_zero, List.set_cons_succ]
              refine hd_sole 1 (by kernel_rfl) (op_run (.slice O q co) _ rfl rfl (by simp [go_sem, LC5] <;> rfl) ⟨trivial, ?_⟩)
              simp only [List.getElem_toArray, List.getElem_cons_succ, List.getElem_cons_zero, Act.put, List.setIfInBounds_toArray, List.set_cons_zero, List.set_cons_succ]
              exact HIN w4 hb4
        · intro w4 hb4
          have b4 : Below wr.heap.size wr w4 := bel_on (Below.refl _ _).drew hb4
          have ho4 := HOK.out.below b4
          have hg4 := HG.out.below' b4
          have hr4 := HR.out.below' b4
          have ho5 := ho4.below (alloc_bel w4 (.cells (cellsB r).toArray 23))
          have hg5 := hg4.alloc (.cells (cellsB r).toArray 23)
          have hr5 := hr4.alloc (.cells (cellsB r).toArray 23)
          have b5 := b4.alloc b4.size (.cells (cellsB r).toArray 23)
          have hsrc := src_key w4 HRL.out
          have hz5 : w.heap.size + 2 ≤ (w4.alloc (.cells (cellsB r).toArray 23)).heap.size := by have := b5.size; omega
          refine hd_appendK 5 (.tmp 66) (.tmp 69) rfl rfl rfl (by kernel_rfl) (w.heap.size + 2) O q co os HOS.out rfl ho5 _ 1 1 [r] rfl rfl hsrc (by omega) hz5 ?_
          intro A6 c6 w6 ho6 hb6
          have hg6 := hg5.below hb6 (by omega)
          have hr6 := hr5.below hb6 (by omega)
          refine ⟨trivial, ?_⟩
          simp only [List.getElem_toArray, List.getElem_cons_succ, List.getElem_cons_zero, Act.put, List.setIfInBounds_toArray, List.set_cons_zero, List.set_cons_succ]
          refine hd_take 6 (.pointer (some ⟨w.heap.size + 1, 2, none⟩)) rfl rfl (by kernel_rfl) (by kernel_rfl) (by kernel_rfl) (fun _ _ _ h => h) (fun w _ => by go_simp) trivial ?_
          simp only [List.getElem_toArray, List.getElem_cons_succ, List.getElem_cons_zero, Act.put, List.setIfInBounds_toArray, List.set_cons_zero, List.set_cons_succ]
          have hc6 : (w6.cell? ⟨w.heap.size + 1, 2, none⟩) = some (.slice O q co) := hg6.cell 2
          have hf6 : w6.frozen? ⟨w.heap.size + 1, 2, none⟩ = false := hg6.frozen 2
          refine hd_sole 7 (by kernel_rfl) (op_skip (w6.setCell ⟨w.heap.size + 1, 2, none⟩ (.slice A6 (q + 1) c6)) rfl rfl (by simp [go_sem, hc6, hf6]) ⟨trivial, ?_⟩)
          simp only [List.getElem_toArray, List.getElem_cons_succ, List.getElem_cons_zero, Act.put, List.setIfInBounds_toArray, List.set_cons_zero, List.set_cons_succ]
          have ho7 := ho6.set_low ⟨w.heap.size + 1, 2, none⟩ (.slice A6 (q + 1) c6) (by simp)
          have hg7 := blk3_set hg6 (.slice A6 (q + 1) c6)
          have hr7 := hr6.far (p := ⟨w.heap.size + 1, 2, none⟩) (by simp) (.slice A6 (q + 1) c6)
          have HO7 := Lib.hid ho7
          have HG7 := Lib.hid hg7
          have HR7 := Lib.hid hr7
          have b7 : Below w.heap.size w (w6.setCell ⟨w.heap.size + 1, 2, none⟩ (.slice A6 (q + 1) c6)) := ((HB.out.trans (Below.mono b5 HB.out.size)).trans (hb6.mono (by omega))).setCell (by simp) _
          generalize w6.setCell ⟨w.heap.size + 1, 2, none⟩ (.slice A6 (q + 1) c6) = w7 at *
          clear ho7 hg7 hr7 ho6 hg6 hr6 ho5 hg5 hr5 ho4 hg4 hr4 hsrc hc6 hf6
          refine wpAnyH_done (by kernel_rfl) (NoPanic.normal ?_) _
          have hPA := HPE.out
          have hoA := HO7.out
          have hkA := HKK.out.snoc HRL.out
          have hqA : (os ++ [r]).length = q + 1 := by rw [List.length_append, HOS.out]; rfl
          have hgA := HG7.out
          have hrA := HR7.out
          have hbA := b7
          clear HPE HO7 HKK HOS HG7 HR7 b7 HB HOK HG HR HRO hk16 hos hb
          have HOA := Lib.hid hoA
          have HKA := Lib.hid hkA
          have HPA := Lib.hid hPA
          have HQA := Lib.hid hqA
          have HGA := Lib.hid hgA
          have HRA := Lib.hid hrA
          have HBA := Lib.hid hbA
          have LC : w7.cell? ⟨w.heap.size + 1, 2, none⟩ = some (.slice A6 (q + 1) c6) := hgA.cell 2
          have HRV : Hid (∀ W, Below w7.heap.size w7 W → Calls Try.prog 73 #[.slice A6 (q + 1) c6] W fun e w' => e = .returned (.tuple #[]) ∧ OK16 (w.heap.size + 2) w' A6 c6 P0 ∧ Below (w.heap.size + 2) W w') := fun W hW => by rw [hPA]; exact reverse_any (os ++ [r]) A6 c6 W hqA (hoA.below hW) hkA (by omega)
          have hgl2 : w.heap.size + 1 < w7.heap.size := hgA.lt
          have HPL : Hid (P0.length = (q + 1)) := by unfold Hid; rw [hPA, List.length_reverse, hqA]
          clear hoA hkA hPA hqA hgA hrA hbA
          go_wp2_with (go_at_call 73; refine (HRV.out _ (Below.refl _ _)).mono ?_; rintro e w2 ⟨rfl, ho2, hb2⟩; have hg2 := HGA.out.below hb2 (by omega); have hr2 := HRA.out.below hb2 (by omega); have c0 : w2.cell? ⟨w.heap.size + 1, 0, none⟩ = some (.int .i64 (i : Int)) := hg2.cell 0; have c1 : w2.cell? ⟨w.heap.size + 1, 1, none⟩ = some (.int .i64 (n : Int)) := hg2.cell 1; have c2 : w2.cell? ⟨w.heap.size + 1, 2, none⟩ = some (.slice A6 (q + 1) c6) := hg2.cell 2; have r0 : w2.cell? ⟨w.heap.size, 0, none⟩ = some (.int .i64 0) := hr2.cell 0; have r1 : w2.cell? ⟨w.heap.size, 1, none⟩ = some (.int .i64 0) := hr2.cell 1; have r2 : w2.cell? ⟨w.heap.size, 2, none⟩ = some (.slice none 0 0) := hr2.cell 2; have f0 := hr2.frozen 0; have f1 := hr2.frozen 1; have f2 := hr2.frozen 2; have HO2 := Lib.hid ho2; have HB2 := Lib.hid (HBA.out.trans (hb2.mono (by omega))); clear ho2 hb2 hg2 hr2)
          refine bodyPost_ret (v := .tuple #[.agg #[.int .i64 (i : Int), .int .i64 (n : Int), .slice A6 (q + 1) c6], .int .i64 0]) (by simp [results, Try.f23, go_sem, c0, c1, c2, r0, r1, r2]) rfl ⟨⟨A6, c6, by show _ = Ending.returned (.tuple #[.agg #[.int .i64 (i : Int), .int .i64 (n : Int), .slice A6 P0.length c6], .int .i64 0]); rw [HPL.out], (((HO2.out.set_low _ _ (by simp)).set_low _ _ (by simp)).set_low _ _ (by simp)).le_ (by omega)⟩, ((HB2.out.setCell (by simp) _).setCell (by simp) _).setCell (by simp) _⟩

set_option maxHeartbeats 1000000 in
theorem ProveGrowth_any (ks : List (List UInt8)) (i : Int) (A : Option Addr) (c : Nat) (w : World) {n : Nat} (hn : ks.length = n) (h : KR w A c ks) :
    Calls Try.prog 23 #[.slice A n c, .int .i64 i] w fun e w' => PrEnd w.heap.size (growthS ks i).a (growthS ks i).b (growthS ks i).P (growthS ks i).e e w' ∧ Below w.heap.size w w' := by
  have hnl : (n : Int) ≤ 140737488351232 := by have := h.len; omega
  have b0 := alloc_bel w (.cells #[.int .i64 0, .int .i64 0, .slice none 0 0] 59)
  rcases (by omega : 128 < n ∨ (n ≤ 128 ∧ i < 1) ∨ (n ≤ 128 ∧ 1 ≤ i ∧ (n : Int) < i) ∨ (n ≤ 128 ∧ 1 ≤ i ∧ i ≤ (n : Int))) with hw | ⟨hw, hl⟩ | ⟨hw, hl, hh⟩ | ⟨hw, hl, hh⟩
  · have hw2 : 128 < (n : Int) := by omega
    have HS : Hid (growthS ks i = ⟨0, 0, [], 4⟩) := by unfold Hid growthS; rw [if_pos (by omega)]
    clear hn h hw
    go_enter Try.func23, Try.ntmps23
    go_wp2
    exact bodyPost_ret (v := .tuple #[.agg #[.int .i64 0, .int .i64 0, .slice none 0 0], .int .i64 4]) (by simp [results, Try.f23, go_sem]) rfl ⟨⟨none, 0, by rw [HS.out]; rfl, by rw [HS.out]; exact OK16.nil _ _⟩, b0⟩
  · have hw2 : (n : Int) ≤ 128 := by omega
    have HS : Hid (growthS ks i = ⟨0, 0, [], 2⟩) := by unfold Hid growthS; rw [if_neg (by omega), if_pos (by omega)]
    clear hn h hw
    go_enter Try.func23, Try.ntmps23
    go_wp2
    exact bodyPost_ret (v := .tuple #[.agg #[.int .i64 0, .int .i64 0, .slice none 0 0], .int .i64 2]) (by simp [results, Try.f23, go_sem]) rfl ⟨⟨none, 0, by rw [HS.out]; rfl, by rw [HS.out]; exact OK16.nil _ _⟩, b0⟩
  · have hw2 : (n : Int) ≤ 128 := by omega
    have HS : Hid (growthS ks i = ⟨0, 0, [], 2⟩) := by unfold Hid growthS; rw [if_neg (by omega), if_pos (by omega)]
    clear hn h hw
    go_enter Try.func23, Try.ntmps23
    go_wp2
    exact bodyPost_ret (v := .tuple #[.agg #[.int .i64 0, .int .i64 0, .slice none 0 0], .int .i64 2]) (by simp [results, Try.f23, go_sem]) rfl ⟨⟨none, 0, by rw [HS.out]; rfl, by rw [HS.out]; exact OK16.nil _ _⟩, b0⟩
  · obtain ⟨j, rfl⟩ : ∃ j : Nat, i = (j : Int) := ⟨i.toNat, by omega⟩
    have HS : growthS ks (j : Int) = ⟨j, n, partS ks j true, 0⟩ := by unfold growthS; rw [if_neg (by omega), if_neg (by omega), hn, Int.toNat_natCast]
    rw [HS]
    exact ProveGrowth_in ks j A c w hn (by omega) (by omega) hw h
end Go.Proofs.Ytinpiodfpnbllaa

/- Texts that are taken: the variable, the rows, their bytes. -/
namespace Go.Proofs.Ytinpiodfpnbllaa
open Go.RowKit
set_option linter.unusedVariables false
set_option linter.unusedSimpArgs false
attribute [local go_sem] run_storeCells_key run_storeCells_new

theorem Blk.ne_own {w : World} {g : Nat} {t : TypeId} {cs : Array Value} (h : Blk w g t cs) {B' : Nat} {t' : TypeId} {s' n' : Nat} {v' : Value} {xs' : List Value} (h' : w.ownsRow B' t' s' v' n' xs') (hne : t ≠ t') : some g ≠ v'.ownBlock := by
  rcases h'.2 with ⟨rfl, _⟩ | ⟨g', cap', cur', rfl, _, hh', _⟩
  · simp [Value.ownBlock]
  · intro e
    have : g = g' := by simpa [Value.ownBlock] using e
    subst this
    unfold Blk at h
    rw [h] at hh'
    injection hh' with hh'
    injection hh' with _ ht
    exact hne ht
theorem Blk.grown {w w' : World} {g : Nat} {t : TypeId} {cs : Array Value} (h : Blk w g t cs) {B' : Nat} {t' : TypeId} {s' n' : Nat} {v' : Value} {xs' : List Value} (h' : w.ownsRow B' t' s' v' n' xs') (hne : t ≠ t') (hg : w.grownBy w' v'.ownBlock) : Blk w' g t cs :=
  (hg.block g h.lt (h.ne_own h' hne)).trans h
theorem own_block_apart {w w' : World} {B : Nat} {t t' : TypeId} {s n g : Nat} {v : Value} {xs : List Value} {cs : Array Value} (h : w.ownsRow B t s v n xs) (hb : Blk w g t' cs) (hne : t' ≠ t) (hk : ∀ k, k ≠ g → w'.heap[k]? = w.heap[k]?) : w'.ownsRow B t s v n xs :=
  ⟨h.1, h.2.elim Or.inl fun ⟨g', cap, cur, hv, hB, hh, r⟩ => Or.inr ⟨g', cap, cur, hv, hB, (hk g' fun e => by
    subst e
    unfold Blk at hb
    rw [hb] at hh
    injection hh with hh
    injection hh with _ ht
    exact hne ht).trans hh, r⟩⟩
theorem own_set_apart {w : World} {B : Nat} {t t' : TypeId} {s n g : Nat} {v : Value} {xs : List Value} {cs : Array Value} (h : w.ownsRow B t s v n xs) (hb : Blk w g t' cs) (hne : t' ≠ t) (i : Nat) (u : Value) : (w.setCell ⟨g, i, none⟩ u).ownsRow B t s v n xs :=
  own_block_apart h hb hne fun k hk => Below.heap_setCell w _ u k hk
theorem own_row_apart {w : World} {B : Nat} {t t' : TypeId} {s n g : Nat} {v : Value} {xs : List Value} {cs : Array Value} (h : w.ownsRow B t s v n xs) (hb : Blk w g t' cs) (hne : t' ≠ t) (cs' : Array Value) : (w.setRow g cs').ownsRow B t s v n xs :=
  own_block_apart h hb hne fun k hk => setRow_other w g k cs' hk
theorem src_one (w : World) (v : Value) (t : TypeId) : Src (w.alloc (.cells #[v] t)) 1 (some ⟨w.heap.size, 0, none⟩) 1 [v] := by
  refine ⟨rfl, .inr ⟨_, rfl, fun j u hu => ?_⟩⟩
  rw [Addr.add_lit, Nat.zero_add, (Blk.new w t #[v]).cell j]
  simpa using hu

/-- Keys in memory stay as they are. -/
def KeepT (w w' : World) : Prop := ∀ k cs, Blk w k 23 cs → Blk w' k 23 cs
theorem KeepT.refl (w : World) : KeepT w w := fun _ _ h => h
theorem KeepT.trans {w1 w2 w3 : World} (h : KeepT w1 w2) (h' : KeepT w2 w3) : KeepT w1 w3 := fun k cs hk => h' k cs (h k cs hk)
theorem KeepT.of_below {w w' : World} (h : Below w.heap.size w w') : KeepT w w' := fun k cs hk => hk.below' h
theorem KeepT.grown {w w' : World} {B' : Nat} {t' : TypeId} {s' n' : Nat} {v' : Value} {xs' : List Value} (h' : w.ownsRow B' t' s' v' n' xs') (hne : 23 ≠ t') (hg : w.grownBy w' v'.ownBlock) : KeepT w w' := fun k cs hk => hk.grown h' hne hg
theorem KeepT.set {w : World} {g i : Nat} {t : TypeId} {cs : Array Value} (hb : Blk w g t cs) (hne : t ≠ 23) (u : Value) : KeepT w (w.setCell ⟨g, i, none⟩ u) := fun k cs' hk => by
  refine hk.far ?_ u
  intro e
  subst e
  unfold Blk at hb hk
  rw [hk] at hb
  injection hb with hb
  injection hb with _ ht
  exact hne ht.symm
theorem KeepT.rowAbove {w w1 : World} (h : KeepT w w1) {g : Nat} (hg : w.heap.size ≤ g) (cs : Array Value) : KeepT w (w1.setRow g cs) := fun k cs' hk => (setRow_other w1 g k cs (by have := hk.lt; omega)).trans (h k cs' hk)
theorem KeepT.row {w w1 : World} (h : KeepT w w1) (cs : Array Value) : KeepT w (w1.setRow w.heap.size cs) := fun k cs' hk => (setRow_other w1 w.heap.size k cs (by have := hk.lt; omega)).trans (h k cs' hk)
/-- Texts that were taken. -/
def TX (B : Nat) (w : World) (g : Nat) (ts : List (List UInt8)) : Prop :=
  ∃ A c rs, rs.map BRow.l = ts ∧ B ≤ g ∧ Blk w g 119 #[.slice A rs.length c] ∧ RO B w A c rs ∧ (∀ r ∈ rs, OB B w r.A r.c r.l) ∧ ∀ t ∈ ts, t.length ≤ 1000
theorem TX.below {B : Nat} {w w' : World} {g : Nat} {ts : List (List UInt8)} (h : TX B w g ts) (hb : Below w.heap.size w w') : TX B w' g ts := by
  obtain ⟨A, c, rs, h1, h2, h3, h4, h5, h6⟩ := h
  exact ⟨A, c, rs, h1, h2, h3.below' hb, h4.below hb, fun r hr => (h5 r hr).below hb, h6⟩
theorem TX.lt {B : Nat} {w : World} {g : Nat} {ts : List (List UInt8)} (h : TX B w g ts) : g < w.heap.size := by
  obtain ⟨A, c, rs, h1, h2, h3, h4, h5, h6⟩ := h
  exact h3.lt
theorem TX.le {B : Nat} {w : World} {g : Nat} {ts : List (List UInt8)} (h : TX B w g ts) : B ≤ g := by
  obtain ⟨A, c, rs, h1, h2, h3, h4, h5, h6⟩ := h
  exact h2
theorem TX.row {B : Nat} {w : World} {g : Nat} {ts : List (List UInt8)} (h : TX B w g ts) {g' : Nat} {cs : Array Value} (hb : Blk w g' 23 cs) (cs' : Array Value) : TX B (w.setRow g' cs') g ts := by
  obtain ⟨A, c, rs, h1, h2, h3, h4, h5, h6⟩ := h
  refine ⟨A, c, rs, h1, h2, ?_, own_row_apart h4 hb (by decide) cs', fun r hr => own_row_apart (h5 r hr) hb (by decide) cs', h6⟩
  refine (setRow_other w g' g cs' fun e => ?_).trans h3
  subst e
  unfold Blk at hb h3
  rw [hb] at h3
  injection h3 with h3
  injection h3 with _ ht
  exact absurd ht (by decide)

theorem wpList_append_text (w : World) {ops : Array Oper} {rest : List Oper} {o : Oper} {a : Act} {Q : Exit → Act → World → Prop} (hgd : o.guard = none) (s x : Operand)
    (ho : o.op = .call { callee := .builtin .append, args := #[s, x], argTypes := #[119, 119] })
    (B : Nat) (A : Option Addr) (n c : Nat) (rs : List BRow) (hn : rs.length = n) (hs : a.eval s = .slice A n c) (hown : RO B w A c rs)
    (r : BRow) (X : Option Addr) (d : Nat) (hx : a.eval x = .slice X 1 d) (hsrc : Src w 1 X 1 [r.v])
    (hlen : n ≤ 1000000) (hB : B ≤ w.heap.size)
    (h : ∀ A' c' w', RO B w' A' c' (rs ++ [r]) → Below B w w' → w.grownBy w' (Value.ownBlock (.slice A n c)) → wpList Try.prog ops Q rest (a.put o.dst (.slice A' (n + 1) c')) w') : wpList Try.prog ops Q (o :: rest) a w := by
  obtain ⟨i0, hi, hz0, hz1, hz2⟩ := info_parts rows_info
  subst hn
  refine wpList_append_src w hgd s x 119 ho B 24 i0 (.slice none 0 0) 1 24 Try.underlying119 hi hz0 hz1 hz2 rfl (by omega) A rs.length c (rs.map BRow.v) hs hown X 1 d [r.v] hx hsrc (by intro u hu; rw [List.mem_singleton.1 hu]; rfl)
    (by simp only [maxLen]; omega) (by omega) hB ?_
  intro A' c' w' h1 h2 h3
  refine h A' c' w' ?_ (grown_below (Below.refl _ _) hown h2 hB (Nat.le_refl _)) h2
  unfold RO
  rw [List.map_append, List.length_append]
  exact h1

theorem taken {B : Nat} {w : World} {g : Nat} {A A0 : Option Addr} {c c0 q0 q : Nat} {rs : List BRow} {ts : List (List UInt8)} (hro : RO B w A c rs) (hob : ∀ r ∈ rs, OB B w r.A r.c r.l) (hb : Blk w g 119 #[.slice A0 q0 c0]) (hts : rs.map BRow.l = ts) (hq : rs.length = q) (hg : B ≤ g) (hbd : ∀ t ∈ ts, t.length ≤ 1000) :
    TX B (w.setCell ⟨g, 0, none⟩ (.slice A q c)) g ts := by
  subst hq
  refine ⟨A, c, rs, hts, hg, ?_, own_set_apart hro hb (by decide) _ _, fun r hr => own_set_apart (hob r hr) hb (by decide) _ _, hbd⟩
  have := hb.set_ 0 (.slice A rs.length c)
  simpa using this

set_option maxHeartbeats 1000000 in
set_option maxRecDepth 100000 in
theorem take_any {B : Nat} (ts : List (List UInt8)) (t : List UInt8) (X : Option Addr) (d g : Nat) (w : World) {m : Nat} (hm : t.length = m) (h : TX B w g ts) (hx : OB B w X d t) (hl : m ≤ 1000) (hts : ts.length ≤ 100000) :
    Calls Try.prog 65 #[.pointer (some ⟨g, 0, none⟩), .slice X m d] w fun e w' => e = .returned (.agg (cellsB (digS t)).toArray) ∧ TX B w' g (ts ++ [t]) ∧ KeepT w w' ∧ Below B w w' := by
  have hglt := h.lt
  have hBg := h.le
  obtain ⟨A, c, rs, hrs, _, hblk, hro, hob, hbd⟩ := h
  have HBD : Hid (∀ x ∈ ts ++ [t], x.length ≤ 1000) := fun x hx => by
    rcases List.mem_append.1 hx with hx | hx
    · exact hbd x hx
    · rw [List.mem_singleton.1 hx, hm]; exact hl
  obtain ⟨q, hq⟩ : ∃ q, rs.length = q := ⟨_, rfl⟩
  have hqb : q ≤ 100000 := by rw [← hq, ← List.length_map (f := BRow.l), hrs]; exact hts
  rw [hq] at hblk
  have HZ := Lib.hid zero16
  have HQ := Lib.hid hq
  have hc0 : w.cell? ⟨g, 0, none⟩ = some (.slice A q c) := hblk.cell 0
  have HKEY := Lib.hid (Blk.new w 23 (cellsB zeroK).toArray)
  have b0 := alloc_bel w (.cells (cellsB zeroK).toArray 23)
  have b1 : Below w.heap.size w ((w.alloc (.cells (cellsB zeroK).toArray 23)).alloc (.cells #[.slice X m d] 24)) := alloc2_bel w _ _
  have HSRC := Lib.hid (src_one (w.alloc (.cells (cellsB zeroK).toArray 23)) (.slice X m d) 24)
  have HKEY1 := Lib.hid (HKEY.out.alloc (.cells #[.slice X m d] 24))
  have HRO := Lib.hid (hro.below b1)
  have HBLK := Lib.hid (hblk.below' b1)
  have HOB : Hid (∀ r ∈ rs ++ [⟨X, d, t⟩], OB B ((w.alloc (.cells (cellsB zeroK).toArray 23)).alloc (.cells #[.slice X m d] 24)) r.A r.c r.l) := fun r hr => by
    rcases List.mem_append.1 hr with hr | hr
    · exact (hob r hr).below b1
    · rw [List.mem_singleton.1 hr]; exact hx.below b1
  have HRS : Hid ((rs ++ [(⟨X, d, t⟩ : BRow)]).map BRow.l = ts ++ [t]) := by unfold Hid; rw [List.map_append, hrs]; rfl
  have HM := Lib.hid hm
  have HDL : Hid ((digS t).length = 16) := digS_length _
  have HD : Hid (∀ A c W, BR W A c t → Calls Try.prog 122 #[.slice A m c] W fun e w' => e = .returned (.agg (cellsB (digS t)).toArray) ∧ Below W.heap.size W w') := fun A c W hW => digest_any t A c W hm hW (by omega)
  generalize digS t = dg at HDL HD ⊢
  have hdc : (cellsB dg).length = 16 := by rw [cellsB_length, HDL.out]
  have hall := all16 dg
  have hBg' : B ≤ w.heap.size := by omega
  clear hrs hq hblk hro hob hx hm hbd
  go_enter Try.func65, Try.ntmps65
  go_wp2_with (first
    | (at_builtin; rw [HZ.out]; refine wpList_append_text _ rfl (.tmp 8) (.tmp 10) rfl B A q c rs HQ.out rfl HRO.out ⟨X, d, t⟩ (some ⟨w.heap.size + 1, 0, none⟩) 1 rfl (by rw [show BRow.v ⟨X, d, t⟩ = .slice X m d from by unfold BRow.v; rw [HM.out]]; have := HSRC.out; rw [World.size_alloc] at this; exact this) (by omega) (by have := HKEY1.out.lt; omega) ?_; intro A5 c5 w5 hro5 hbl5 hg5; rw [← HQ.out] at hg5; have K5 := Lib.hid ((KeepT.of_below b1).trans (KeepT.grown HRO.out (by decide) hg5)); have HBLK5 := Lib.hid (HBLK.out.grown HRO.out (by decide) hg5); have HKEY5 := Lib.hid (HKEY1.out.grown HRO.out (by decide) hg5); have HOB5 : Hid (∀ r ∈ rs ++ [(⟨X, d, t⟩ : BRow)], OB B w5 r.A r.c r.l) := (fun r hr => own_kept (HOB.out r hr) HRO.out (by decide) hg5); have HRO5 := Lib.hid hro5; have hc5 : w5.cell? ⟨g, 0, none⟩ = some (.slice A q c) := HBLK5.out.cell 0; have hf5 : w5.frozen? ⟨g, 0, none⟩ = false := HBLK5.out.frozen 0; have B5 : Hid (Below B w w5) := ((b1.mono hBg').trans hbl5); clear hro5 hg5 hbl5)
    | (go_at_call 122; have ho6 := own_set_apart (HOB5.out ⟨X, d, t⟩ (by simp)) HBLK5.out (by decide) 0 (.slice A5 (q + 1) c5); rw [HM.out] at ho6; refine (HD.out X d _ (OB.br (by unfold OB; rw [HM.out]; exact ho6) (by rw [HM.out]; omega))).mono ?_; rintro e w7 ⟨rfl, hb7⟩; have TX7 : Hid (TX B w7 g (ts ++ [t])) := (taken HRO5.out HOB5.out HBLK5.out HRS.out (by rw [List.length_append, HQ.out]; rfl) hBg HBD.out).below hb7; have KEY7 := (HKEY5.out.far (p := ⟨g, 0, none⟩) (by simp; omega) (.slice A5 (q + 1) c5)).below' hb7; have hr7 : (rowAt w7 w.heap.size).size = 16 := (by rw [KEY7.row]; rfl); have hf7 := KEY7.free; have B6 : Below B w (w5.setCell ⟨g, 0, none⟩ (.slice A5 (q + 1) c5)) := B5.out.setCell hBg _; have B7 := Lib.hid (B6.trans (hb7.mono (by have := B5.out.size; simp; omega))); have HKEY7 := Lib.hid KEY7; have K7 := Lib.hid ((K5.out.trans (KeepT.set (i := 0) HBLK5.out (by decide) (.slice A5 (q + 1) c5))).trans (KeepT.of_below hb7)); clear KEY7 ho6))
  exact bodyPost_ret (results_cell_row rfl _ _ w.heap.size _ _ (0, 0) _ rfl (HKEY7.out.setRow (cellsB dg).toArray) under_key rfl (cellsB_size _ HDL.out)) rfl ⟨rfl, TX7.out.row HKEY7.out _, K7.out.row _, below_setRow B7.out hBg' _⟩
end Go.Proofs.Ytinpiodfpnbllaa

/- The texts of a list: the program's. -/
namespace Go.Proofs.Ytinpiodfpnbllaa
open Go.RowKit
set_option linter.unusedVariables false
set_option linter.unusedSimpArgs false
attribute [local go_sem] run_storeCells_key run_storeCells_new

set_option maxHeartbeats 1000000 in
set_option maxRecDepth 100000 in
theorem takeLeaf_any {B : Nat} (ts : List (List UInt8)) (k : List UInt8) (g : Nat) (w : World) (hk : k.length = 16) (h : TX B w g ts) (hts : ts.length ≤ 100000) :
    Calls Try.prog 64 #[.agg (cellsB k).toArray, .pointer (some ⟨g, 0, none⟩)] w fun e w' => e = .returned (.agg (cellsB (digS (leafT k))).toArray) ∧ TX B w' g (ts ++ [leafT k]) ∧ KeepT w w' ∧ Below B w w' := by
  have HZ := Lib.hid zero16
  have HK := Lib.hid hk
  have hBg : B ≤ w.heap.size := by have := h.lt; have := h.le; omega
  have b0 := alloc2_bel w (.cells (cellsB k).toArray 23) (.cells (cellsB zeroK).toArray 23)
  have B0 := Lib.hid (blk_b0 w (cellsB k).toArray 23 (.cells (cellsB zeroK).toArray 23))
  have B1 := Lib.hid (blk_b1 w (.cells (cellsB k).toArray 23) (cellsB zeroK).toArray 23)
  have HTX := Lib.hid (h.below b0)
  have HLT : Hid (∀ W, Calls Try.prog 66 #[.agg (cellsB k).toArray] W fun e w' => (∃ A c, e = .returned (.slice A 17 c) ∧ OB W.heap.size w' A c (leafT k)) ∧ Below W.heap.size W w') := fun W => leafText_any k W hk
  have HLL : Hid ((leafT k).length = 17) := by unfold Hid leafT; simp [hk]
  generalize leafT k = t at HLT HLL ⊢
  have HTK : Hid (∀ X d W, TX B W g ts → OB B W X d t → Calls Try.prog 65 #[.pointer (some ⟨g, 0, none⟩), .slice X 17 d] W fun e w' => e = .returned (.agg (cellsB (digS t)).toArray) ∧ TX B w' g (ts ++ [t]) ∧ KeepT W w' ∧ Below B W w') := fun X d W h1 h2 => take_any ts t X d g W HLL.out h1 h2 (by omega) hts
  have HDL : Hid ((digS t).length = 16) := digS_length _
  generalize digS t = dg at HDL HTK ⊢
  have hdc : (cellsB dg).length = 16 := by rw [cellsB_length, HDL.out]
  have hall := all16 dg
  clear hk h
  go_enter Try.func64, Try.ntmps64
  go_wp2_with (first
    | (refine wpList_load_row rfl 23 (.tmp 2) rfl w.heap.size rfl 23 (cellsB k).toArray (0, 0) _ (by rw [HZ.out]; exact B0.out) under_key rfl (cellsB_size _ HK.out) ?_)
    | (go_at_call 66; rw [HZ.out]; refine (HLT.out _).mono ?_; rintro e w1 ⟨⟨A1, c1, rfl, ho1⟩, hb1⟩; have b1 := bel_on b0 hb1; have TX1 := Lib.hid (HTX.out.below hb1); have O1 := Lib.hid (ho1.le_ (Nat.le_trans hBg b0.size)); have Q1 := Lib.hid (B1.out.below' hb1); clear ho1 hb1)
    | (go_at_call 65; refine (HTK.out _ _ _ TX1.out O1.out).mono ?_; rintro e w2 ⟨rfl, htx2, hk2, hb2⟩; have TX2 := Lib.hid htx2; have K2 := Lib.hid ((KeepT.of_below b1).trans hk2); have Q2 := hk2 _ _ Q1.out; have b2 := Lib.hid ((b1.mono hBg).trans hb2); have hr2 : (rowAt w2 (w.heap.size + 1)).size = 16 := (by rw [Q2.row]; rfl); have hf2 := Q2.free; have HQ2 := Lib.hid Q2; clear Q2 htx2 hk2 hb2))
  exact bodyPost_ret (results_cell_row rfl _ _ (w.heap.size + 1) _ _ (0, 0) _ rfl (HQ2.out.setRow (cellsB dg).toArray) under_key rfl (cellsB_size _ HDL.out)) rfl ⟨rfl, TX2.out.row HQ2.out _, K2.out.rowAbove (by omega) _, below_setRow b2.out (by omega) _⟩

set_option maxHeartbeats 1000000 in
set_option maxRecDepth 100000 in
theorem takeNode_any {B : Nat} (ts : List (List UInt8)) (a b : List UInt8) (g : Nat) (w : World) (ha : a.length = 16) (hb : b.length = 16) (h : TX B w g ts) (hts : ts.length ≤ 100000) :
    Calls Try.prog 67 #[.agg (cellsB a).toArray, .agg (cellsB b).toArray, .pointer (some ⟨g, 0, none⟩)] w fun e w' => e = .returned (.agg (cellsB (digS (nodeT a b))).toArray) ∧ TX B w' g (ts ++ [nodeT a b]) ∧ KeepT w w' ∧ Below B w w' := by
  have HZ := Lib.hid zero16
  have HA := Lib.hid ha
  have HB := Lib.hid hb
  have hBg : B ≤ w.heap.size := by have := h.lt; have := h.le; omega
  have b0 := alloc3_bel w (.cells (cellsB a).toArray 23) (.cells (cellsB b).toArray 23) (.cells (cellsB zeroK).toArray 23)
  have B0 := Lib.hid (blk_a0 w (cellsB a).toArray 23 (.cells (cellsB b).toArray 23) (.cells (cellsB zeroK).toArray 23))
  have B1 := Lib.hid (blk_a1 w (.cells (cellsB a).toArray 23) (cellsB b).toArray 23 (.cells (cellsB zeroK).toArray 23))
  have B2 := Lib.hid (blk_a2 w (.cells (cellsB a).toArray 23) (.cells (cellsB b).toArray 23) (cellsB zeroK).toArray 23)
  have HTX := Lib.hid (h.below b0)
  have HLT : Hid (∀ W, Calls Try.prog 68 #[.agg (cellsB a).toArray, .agg (cellsB b).toArray] W fun e w' => (∃ A c, e = .returned (.slice A 33 c) ∧ OB W.heap.size w' A c (nodeT a b)) ∧ Below W.heap.size W w') := fun W => nodeText_any a b W ha hb
  have HLL : Hid ((nodeT a b).length = 33) := by unfold Hid nodeT; simp [ha, hb]
  generalize nodeT a b = t at HLT HLL ⊢
  have HTK : Hid (∀ X d W, TX B W g ts → OB B W X d t → Calls Try.prog 65 #[.pointer (some ⟨g, 0, none⟩), .slice X 33 d] W fun e w' => e = .returned (.agg (cellsB (digS t)).toArray) ∧ TX B w' g (ts ++ [t]) ∧ KeepT W w' ∧ Below B W w') := fun X d W h1 h2 => take_any ts t X d g W HLL.out h1 h2 (by omega) hts
  have HDL : Hid ((digS t).length = 16) := digS_length _
  generalize digS t = dg at HDL HTK ⊢
  have hdc : (cellsB dg).length = 16 := by rw [cellsB_length, HDL.out]
  have hall := all16 dg
  clear ha hb h
  go_enter Try.func67, Try.ntmps67
  go_wp2_with (first
    | (refine wpList_load_row rfl 23 (.tmp 3) rfl w.heap.size rfl 23 (cellsB a).toArray (0, 0) _ (by rw [HZ.out]; exact B0.out) under_key rfl (cellsB_size _ HA.out) ?_)
    | (refine wpList_load_row rfl 23 (.tmp 4) rfl (w.heap.size + 1) rfl 23 (cellsB b).toArray (0, 0) _ (by rw [HZ.out]; exact B1.out) under_key rfl (cellsB_size _ HB.out) ?_)
    | (go_at_call 68; rw [HZ.out]; refine (HLT.out _).mono ?_; rintro e w1 ⟨⟨A1, c1, rfl, ho1⟩, hb1⟩; have b1 := bel_on b0 hb1; have TX1 := Lib.hid (HTX.out.below hb1); have O1 := Lib.hid (ho1.le_ (Nat.le_trans hBg b0.size)); have Q1 := Lib.hid (B2.out.below' hb1); clear ho1 hb1)
    | (go_at_call 65; refine (HTK.out _ _ _ TX1.out O1.out).mono ?_; rintro e w2 ⟨rfl, htx2, hk2, hb2⟩; have TX2 := Lib.hid htx2; have K2 := Lib.hid ((KeepT.of_below b1).trans hk2); have Q2 := hk2 _ _ Q1.out; have b2 := Lib.hid ((b1.mono hBg).trans hb2); have hr2 : (rowAt w2 (w.heap.size + 1 + 1)).size = 16 := (by rw [Q2.row]; rfl); have hf2 := Q2.free; have HQ2 := Lib.hid Q2; clear Q2 htx2 hk2 hb2))
  exact bodyPost_ret (results_cell_row rfl _ _ (w.heap.size + 1 + 1) _ _ (0, 0) _ rfl (HQ2.out.setRow (cellsB dg).toArray) under_key rfl (cellsB_size _ HDL.out)) rfl ⟨rfl, TX2.out.row HQ2.out _, K2.out.rowAbove (by omega) _, below_setRow b2.out (by omega) _⟩

theorem textsS_le : ∀ (n : Nat) (l : List (List UInt8)), l.length = n → 1 ≤ n → (textsS l).length ≤ 2 * n := by
  intro n
  induction n using Nat.strongRecOn with
  | _ n ih =>
    intro l hl h1
    rcases Nat.lt_or_ge n 2 with h2 | h2
    · obtain rfl : n = 1 := by omega
      obtain ⟨x, rfl⟩ := List.length_eq_one_iff.1 hl
      rw [textsS_one]; simp
    have s1 := splitS_lt h2
    have s2 := splitS_pos n
    suffices hs : (textsS l).length + 1 ≤ 2 * n by omega
    have : ∀ (n : Nat) (l : List (List UInt8)), l.length = n → 1 ≤ n → (textsS l).length + 1 ≤ 2 * n := by
      intro n
      induction n using Nat.strongRecOn with
      | _ n ih =>
        intro l hl h1
        rcases Nat.lt_or_ge n 2 with h2 | h2
        · obtain rfl : n = 1 := by omega
          obtain ⟨x, rfl⟩ := List.length_eq_one_iff.1 hl
          rw [textsS_one]; simp
        have s1 := splitS_lt h2
        have s2 := splitS_pos n
        rw [textsS_node (by omega), hl]
        have a := ih (splitS n) s1 (l.take (splitS n)) (by rw [List.length_take]; omega) s2
        have b := ih (n - splitS n) (by omega) (l.drop (splitS n)) (by rw [List.length_drop]; omega) (by omega)
        simp only [List.length_append, List.length_cons, List.length_nil]
        omega
    exact this n l hl h1

set_option maxHeartbeats 1000000 in
set_option maxRecDepth 100000 in
theorem textFold_one (w0 : World) (k : List UInt8) (A : Option Addr) (c g : Nat) (ts : List (List UInt8)) (w : World) (h : KR w0 A c [k]) (hw : Below w0.heap.size w0 w) (ht : TX w0.heap.size w g ts) (hts : ts.length ≤ 100000) :
    Calls Try.prog 63 #[.slice A 1 c, .func (.func 64) #[] #[.pointer (some ⟨g, 0, none⟩)], .func (.func 67) #[] #[.pointer (some ⟨g, 0, none⟩)]] w fun e w' => e = .returned (.agg (cellsB (rootS [k])).toArray) ∧ TX w0.heap.size w' g (ts ++ textsS [k]) ∧ KeepT w w' ∧ Below w0.heap.size w w' := by
  have hk : k.length = 16 := h.2 k (by simp)
  obtain ⟨b, off, rfl, hb, hr⟩ := (h.below hw).first
  have HK := Lib.hid hk
  have HZ := Lib.hid zero16
  have b0 := alloc_bel w (.cells (cellsB zeroK).toArray 23)
  have B0 := Lib.hid (Blk.new w 23 (cellsB zeroK).toArray)
  have HR := Lib.hid (range_below hr b0)
  have HTX := Lib.hid (ht.below b0)
  have hws : w0.heap.size ≤ w.heap.size := hw.size
  have HD : Hid (∀ W, TX w0.heap.size W g ts → Calls Try.prog 64 #[.agg (cellsB k).toArray, .pointer (some ⟨g, 0, none⟩)] W fun e w' => e = .returned (.agg (cellsB (rootS [k])).toArray) ∧ TX w0.heap.size w' g (ts ++ textsS [k]) ∧ KeepT W w' ∧ Below w0.heap.size W w') := fun W hW => by rw [rootS_one, textsS_one]; exact takeLeaf_any ts k g W hk hW hts
  have HDL : Hid ((rootS [k]).length = 16) := rootS_length _
  generalize rootS [k] = d at HD HDL
  generalize textsS [k] = tk at HD
  have hdc : (cellsB d).length = 16 := by rw [cellsB_length, HDL.out]
  have hall := all16 d
  clear hk hr h ht
  go_enter Try.func63, Try.ntmps63
  go_wp2_with (first
    | (rw [HZ.out]; refine wpList_load_mid rfl 23 (.tmp 13) rfl b off rfl (cellsB k) _ HR.out under_key rfl (key_info HK.out) ?_)
    | (go_at_call 64; refine (HD.out _ HTX.out).mono ?_; rintro e w2 ⟨rfl, htx2, hk2, hb2⟩; have TX2 := Lib.hid htx2; have K2 := Lib.hid ((KeepT.of_below b0).trans hk2); have Q2 := hk2 _ _ B0.out; have b2 := Lib.hid ((b0.mono hws).trans hb2); have hr2 : (rowAt w2 w.heap.size).size = 16 := (by rw [Q2.row]; rfl); have hf2 := Q2.free; have HQ2 := Lib.hid Q2; clear Q2 htx2 hk2 hb2))
  exact bodyPost_ret (results_cell_row rfl _ _ w.heap.size _ _ (0, 0) _ rfl (HQ2.out.setRow (cellsB d).toArray) under_key rfl (cellsB_size _ HDL.out)) rfl ⟨rfl, TX2.out.row HQ2.out _, K2.out.row _, below_setRow b2.out hws _⟩

set_option maxHeartbeats 2000000 in
set_option maxRecDepth 100000 in
theorem textFold_any (w0 : World) (g n : Nat) : ∀ (ks : List (List UInt8)) (A : Option Addr) (c : Nat) (ts : List (List UInt8)) (w : World), ks.length = n → 1 ≤ n → n ≤ 1000 → KR w0 A c ks → Below w0.heap.size w0 w → TX w0.heap.size w g ts → ts.length + 2 * n ≤ 50000 →
    Calls Try.prog 63 #[.slice A n c, .func (.func 64) #[] #[.pointer (some ⟨g, 0, none⟩)], .func (.func 67) #[] #[.pointer (some ⟨g, 0, none⟩)]] w fun e w' => e = .returned (.agg (cellsB (rootS ks)).toArray) ∧ TX w0.heap.size w' g (ts ++ textsS ks) ∧ KeepT w w' ∧ Below w0.heap.size w w' := by
  induction n using Nat.strongRecOn with
  | _ n ih =>
    intro ks A c ts w hn h1n hbig h hw ht hts
    rcases Nat.lt_or_ge n 2 with h2 | h2
    · obtain rfl : n = 1 := by omega
      obtain ⟨k, rfl⟩ := List.length_eq_one_iff.1 hn
      exact textFold_one w0 k A c g ts w h hw ht (by omega)
    have hs1 := splitS_pos n
    have hs2 := splitS_lt h2
    have hcl : n ≤ c := by have := Rd.le h.1; omega
    have hni : (2 : Int) ≤ (n : Int) := by omega
    have hnb : (n : Int) ≤ 1000 := by omega
    have hne0 : ¬ (n : Int) = 0 := by omega
    have hne1 : ¬ (n : Int) = 1 := by omega
    have hws : w0.heap.size ≤ w.heap.size := hw.size
    have HSP : Hid (∀ W, Calls Try.prog 72 #[.int .i64 (n : Int)] W fun e w' => e = .returned (.int .i64 ((splitS n : Nat) : Int)) ∧ W = w') := fun W => split_any n W h2 hbig
    have HNODE : Hid (rootS ks = digS (nodeT (rootS (ks.take (splitS n))) (rootS (ks.drop (splitS n))))) := by have := rootS_node (l := ks) (by omega); rw [hn] at this; exact this
    have HTEXT : Hid (textsS ks = textsS (ks.take (splitS n)) ++ (textsS (ks.drop (splitS n)) ++ [nodeT (rootS (ks.take (splitS n))) (rootS (ks.drop (splitS n)))])) := by have := textsS_node (l := ks) (by omega); rw [hn] at this; exact this
    have hT1 := textsS_le (splitS n) (ks.take (splitS n)) (by rw [List.length_take]; omega) hs1
    have hT2 := textsS_le (n - splitS n) (ks.drop (splitS n)) (by rw [List.length_drop]; omega) (by omega)
    have HLO : Hid (∀ W, Below w0.heap.size w0 W → TX w0.heap.size W g ts → Calls Try.prog 63 #[.slice A (splitS n) c, .func (.func 64) #[] #[.pointer (some ⟨g, 0, none⟩)], .func (.func 67) #[] #[.pointer (some ⟨g, 0, none⟩)]] W fun e w' => e = .returned (.agg (cellsB (rootS (ks.take (splitS n)))).toArray) ∧ TX w0.heap.size w' g (ts ++ textsS (ks.take (splitS n))) ∧ KeepT W w' ∧ Below w0.heap.size W w') := fun W hW hT => ih (splitS n) hs2 _ A c ts W (by rw [List.length_take]; omega) (by omega) (by omega) (h.take _ (by omega)) hW hT (by omega)
    have HHI : Hid (∀ W, Below w0.heap.size w0 W → TX w0.heap.size W g (ts ++ textsS (ks.take (splitS n))) → Calls Try.prog 63 #[.slice (dropK A (splitS n) c) (n - splitS n) (c - splitS n), .func (.func 64) #[] #[.pointer (some ⟨g, 0, none⟩)], .func (.func 67) #[] #[.pointer (some ⟨g, 0, none⟩)]] W fun e w' => e = .returned (.agg (cellsB (rootS (ks.drop (splitS n)))).toArray) ∧ TX w0.heap.size w' g ((ts ++ textsS (ks.take (splitS n))) ++ textsS (ks.drop (splitS n))) ∧ KeepT W w' ∧ Below w0.heap.size W w') := fun W hW hT => ih (n - splitS n) (by omega) _ _ _ _ W (by rw [List.length_drop]; omega) (by omega) (by omega) (h.drop _ (by omega)) hW hT (by rw [List.length_append]; omega)
    have hL1 := rootS_length (ks.take (splitS n))
    have hL2 := rootS_length (ks.drop (splitS n))
    have hsl1 := fun W => slice_keys_to W A n c (splitS n) (by omega)
    have hsl2 := fun W => slice_keys_from W A n c (splitS n) (by omega)
    generalize splitS n = k at HSP HNODE HTEXT HLO HHI hL1 hL2 hsl1 hsl2 hs1 hs2 hT1 hT2
    generalize rootS (ks.take k) = r1 at HNODE HTEXT HLO hL1
    generalize rootS (ks.drop k) = r2 at HNODE HTEXT HHI hL2
    generalize textsS (ks.take k) = x1 at HTEXT HLO HHI hT1
    generalize textsS (ks.drop k) = x2 at HTEXT HHI hT2
    have HD : Hid (∀ W, TX w0.heap.size W g ((ts ++ x1) ++ x2) → Calls Try.prog 67 #[.agg (cellsB r1).toArray, .agg (cellsB r2).toArray, .pointer (some ⟨g, 0, none⟩)] W fun e w' => e = .returned (.agg (cellsB (digS (nodeT r1 r2))).toArray) ∧ TX w0.heap.size w' g (((ts ++ x1) ++ x2) ++ [nodeT r1 r2]) ∧ KeepT W w' ∧ Below w0.heap.size W w') := fun W hW => takeNode_any _ r1 r2 g W hL1 hL2 hW (by simp only [List.length_append]; omega)
    have HDL : Hid ((digS (nodeT r1 r2)).length = 16) := digS_length _
    generalize digS (nodeT r1 r2) = d at HD HDL HNODE
    generalize nodeT r1 r2 = nt at HD HTEXT
    have HZ := Lib.hid zero16
    have b0 := alloc_bel w (.cells (cellsB zeroK).toArray 23)
    have B0 := Lib.hid (Blk.new w 23 (cellsB zeroK).toArray)
    have HTX := Lib.hid (ht.below b0)
    have HW := Lib.hid hw
    clear ih h hn hbig hL1 hL2 ht hts hT1 hT2 hw
    go_enter Try.func63, Try.ntmps63
    go_wp2_with (go_at_call 72; rw [HZ.out]; refine (HSP.out _).mono ?_; rintro e w1 ⟨rfl, rfl⟩)
    obtain ⟨W0, hW0⟩ : ∃ W : World, W = w.alloc (.cells (cellsB zeroK).toArray 23) := ⟨_, rfl⟩
    rw [← hW0] at b0 B0 HTX ⊢
    clear hW0
    refine wp_region_noPanic ?_
    refine wp_region_held_drew (S := fun _ => True) (by kernel_rfl) trivial (fun hS => ?_)
    refine hd_take 0 (_) rfl rfl (by kernel_rfl) (by kernel_rfl) (by kernel_rfl) (fun _ _ _ h => h) (fun w _ => by go_simp <;> rfl) hS ?_
    refine hd_take 1 (_) rfl rfl (by kernel_rfl) (by kernel_rfl) (by kernel_rfl) (fun _ _ _ h => h) (fun w _ => by go_simp <;> rfl) hS ?_
    refine hd_take 2 (_) rfl rfl (by kernel_rfl) (by kernel_rfl) (by kernel_rfl) (fun _ _ _ h => h) (fun w _ => by go_simp <;> rfl) hS ?_
    refine hd_take 4 (_) rfl rfl (by kernel_rfl) (by kernel_rfl) (by kernel_rfl) (fun _ _ _ h => h) (fun w _ => by go_simp <;> rfl) hS ?_
    refine hd_take 5 (_) rfl rfl (by kernel_rfl) (by kernel_rfl) (by kernel_rfl) (fun _ _ _ h => h) (fun w _ => by go_simp <;> rfl) hS ?_
    refine hd_take 7 (_) rfl rfl (by kernel_rfl) (by kernel_rfl) (by kernel_rfl) (fun _ _ _ h => h) (fun w _ => by go_simp <;> rfl) hS ?_
    refine hd_take 8 (_) rfl rfl (by kernel_rfl) (by kernel_rfl) (by kernel_rfl) (fun _ _ _ h => h) (fun w _ => by go_simp <;> rfl) hS ?_
    refine hd_take 10 (_) rfl rfl (by kernel_rfl) (by kernel_rfl) (by kernel_rfl) (fun _ _ _ h => h) (fun w _ => by go_simp <;> rfl) hS ?_
    refine hd_take 11 (_) rfl rfl (by kernel_rfl) (by kernel_rfl) (by kernel_rfl) (fun _ _ _ h => h) (fun w _ => by go_simp <;> rfl) hS ?_
    simp only [List.getElem_toArray, List.getElem_cons_succ, List.getElem_cons_zero, Act.put, List.setIfInBounds_toArray, List.set_cons_zero, List.set_cons_succ]
    refine hd_take 3 (_) rfl rfl (by kernel_rfl) (by kernel_rfl) (by kernel_rfl) (fun _ _ _ h => h) (fun w _ => by go_simp <;> rfl) hS ?_
    refine hd_take 9 (_) rfl rfl (by kernel_rfl) (by kernel_rfl) (by kernel_rfl) (fun _ _ _ h => h) (fun w _ => by go_simp <;> rfl) hS ?_
    simp only [List.getElem_toArray, List.getElem_cons_succ, List.getElem_cons_zero, Act.put, List.setIfInBounds_toArray, List.set_cons_zero, List.set_cons_succ]
    have bw : Below w0.heap.size w W0.drew := (b0.mono hws).trans (Below.refl _ _).drew
    have k0 : KeepT w W0.drew := (KeepT.of_below b0).trans (KeepT.of_below (Below.refl _ _).drew)
    refine hd_calls 6 63 #[.slice A k c, .func (.func 64) #[] #[.pointer (some ⟨g, 0, none⟩)], .func (.func 67) #[] #[.pointer (some ⟨g, 0, none⟩)]] rfl rfl (by kernel_rfl) (by go_simp) ((HLO.out _ (HW.out.trans bw) (HTX.out.below (Below.refl _ _).drew)).mono ?_)
    rintro e w3 ⟨rfl, ht3, hk3, hb3⟩
    have b3 := bw.trans hb3
    refine ⟨_, rfl, trivial, ?_⟩
    refine hd_calls 12 63 #[.slice (dropK A k c) (n - k) (c - k), .func (.func 64) #[] #[.pointer (some ⟨g, 0, none⟩)], .func (.func 67) #[] #[.pointer (some ⟨g, 0, none⟩)]] rfl rfl (by kernel_rfl) (by go_simp) ((HHI.out _ (HW.out.trans b3) ht3).mono ?_)
    rintro e w4 ⟨rfl, ht4, hk4, hb4⟩
    have b4 := b3.trans hb4
    refine ⟨_, rfl, trivial, ?_⟩
    simp only [List.getElem_toArray, List.getElem_cons_succ, List.getElem_cons_zero, Act.put, List.setIfInBounds_toArray, List.set_cons_zero, List.set_cons_succ]
    refine hd_calls 13 67 #[.agg (cellsB r1).toArray, .agg (cellsB r2).toArray, .pointer (some ⟨g, 0, none⟩)] rfl rfl (by kernel_rfl) (by go_simp) ((HD.out _ ht4).mono ?_)
    rintro e w6 ⟨rfl, ht6, hk6, hb6⟩
    have b6 := b4.trans hb6
    refine ⟨_, rfl, trivial, ?_⟩
    simp only [List.getElem_toArray, List.getElem_cons_succ, List.getElem_cons_zero, Act.put, List.setIfInBounds_toArray, List.set_cons_zero, List.set_cons_succ]
    have Q6 := hk6 _ _ (hk4 _ _ (hk3 _ _ B0.out.drew))
    have K6 := ((k0.trans hk3).trans hk4).trans hk6
    refine hd_store 14 w.heap.size (cellsB d).toArray _ _ _ rfl rfl rfl (by kernel_rfl) rfl rfl Q6 (cellsB_size _ HDL.out) (by rw [List.size_toArray, List.size_toArray, cellsB_length, cellsB_length, HDL.out]; rfl) (all_oneCell_toArray (cells_one d)) trivial ?_
    refine wpAnyH_done (by kernel_rfl) (NoPanic.normal ?_) _
    simp only [List.getElem_toArray, List.getElem_cons_succ, List.getElem_cons_zero, Act.put, List.setIfInBounds_toArray, List.set_cons_zero, List.set_cons_succ]
    have HT6 := Lib.hid (ht6.row Q6 (cellsB d).toArray)
    have HK6 := Lib.hid (K6.row (cellsB d).toArray)
    have HB6 := Lib.hid (below_setRow b6 hws (cellsB d).toArray)
    have HQ6 := Lib.hid (Q6.setRow (cellsB d).toArray)
    clear ht6 ht4 ht3 hk3 hk4 hk6 K6 k0
    go_wp2_with fail
    exact bodyPost_ret (results_cell_row rfl _ _ w.heap.size _ _ (0, 0) _ rfl HQ6.out under_key rfl (cellsB_size _ HDL.out)) rfl ⟨by rw [HNODE.out], by rw [HTEXT.out]; have := HT6.out; simpa only [List.append_assoc] using this, HK6.out, HB6.out⟩
end Go.Proofs.Ytinpiodfpnbllaa
