/-
  Lemmas and contracts, joined.
-/
import Derived.Deep.QuietTactic
import Derived.BigQuiet
import Derived.Test.YtinpiodfpnbllaaGreatDoorAuB5
import Derived.Test.YtinpiodfpnbllaaGreatDoorAuB3
import Derived.Test.YtinpiodfpnbllaaGreatDoorAuE1
set_option linter.unusedSimpArgs false
set_option linter.unusedVariables false
set_option linter.unnecessarySimpa false
/- The search in a list of entries that rise. -/
namespace Go.Proofs.YtinpiodfpnbllaaGreatDoor
open Go.RowKit
set_option linter.unusedVariables false
set_option linter.unusedSimpArgs false

set_option maxHeartbeats 1000000 in
theorem find1_any (r q u : Int) (w : World) (h0 : -1 ≤ r) (h1 : r ≤ 64) (h2 : 0 ≤ u) (h3 : u < 64) :
    Calls Tryz.prog 157 #[.agg #[.int .i64 r, .int .i64 q], .int .i64 u] w fun e w' => e = .returned (.int .i64 (r - u)) ∧ Below w.heap.size w w' := by
  have e1 : IntKind.i64.wrap (r - u) = r - u := by rw [IntKind.wrap_i64]; omega
  have d0 : (w.alloc (.cells #[.int .i64 r, .int .i64 q] 98)).cell? ⟨w.heap.size, 0, none⟩ = some (.int .i64 r) := (Blk.new w _ _).cell 0
  have ba := alloc_bel w (.cells #[.int .i64 r, .int .i64 q] 98)
  go_enter Tryz.func157, Tryz.ntmps157
  go_wp2_with fail
  go_ret
  exact ⟨rfl, ba⟩

/-- How many entries lie below u. -/
def lowE (ds : List Ent) (u : Int) : Nat := (ds.takeWhile fun x => decide (x.1 < u)).length
def hitE (ds : List Ent) (u : Int) : Bool := decide ((ds.getD (lowE ds u) (0, 0)).1 = u ∧ lowE ds u < ds.length)
theorem lowE_le (ds : List Ent) (u : Int) : lowE ds u ≤ ds.length := (List.takeWhile_sublist _).length_le
theorem lowE_eq {u : Int} : ∀ {ds : List Ent} {p : Nat}, p ≤ ds.length → (∀ k (h : k < ds.length), k < p → ds[k].1 < u) → (∀ k (h : k < ds.length), p ≤ k → u ≤ ds[k].1) → lowE ds u = p
  | [], p, hp, _, _ => by simp at hp; subst hp; rfl
  | x :: ds, 0, _, _, h2 => by
    have := h2 0 (by simp) (Nat.le_refl _)
    simp only [List.getElem_cons_zero] at this
    simp [lowE, List.takeWhile_cons, show ¬ x.1 < u from by omega]
  | x :: ds, p + 1, hp, h1, h2 => by
    have hx := h1 0 (by simp) (by omega)
    simp only [List.getElem_cons_zero] at hx
    have ih := lowE_eq (u := u) (ds := ds) (p := p) (by simpa using hp) (fun k h hk => by have := h1 (k + 1) (by simpa using h) (by omega); simpa using this) (fun k h hk => by have := h2 (k + 1) (by simpa using h) (by omega); simpa using this)
    unfold lowE at ih ⊢
    rw [List.takeWhile_cons]
    simp [hx, ih]

set_option maxHeartbeats 4000000 in
set_option maxRecDepth 100000 in
theorem search_any (ds : List Ent) (u : Int) (A : Option Addr) (c : Nat) (w : World) {n : Nat} (hn : ds.length = n) (h : ER w A c ds) (hp : ds.Pairwise fun x y => x.1 < y.1) (hv : ∀ x ∈ ds, isE x = true) (h2 : 0 ≤ u) (h3 : u < 64) (hs : n ≤ 2000) :
    Calls Tryz.prog 156 #[.slice A n c, .int .i64 u, .func (.func 157) #[] #[]] w fun e w' => e = .returned (.tuple #[.int .i64 (lowE ds u : Int), .bool (hitE ds u)]) ∧ Below w.heap.size w w' := by
  have HN := Lib.hid hn
  have H := Lib.hid h
  have HV := Lib.hid hv
  have HP := Lib.hid (List.pairwise_iff_getElem.1 hp)
  clear hn h hp hv
  have hnb : (n : Int) ≤ 2000 := by omega
  go_enter Tryz.func156, Tryz.ntmps156
  go_wp2_with fail
  go_loopw [9, 10] (fun vi vj wr => ∃ i j : Nat, i ≤ j ∧ j ≤ n ∧ vi = .int .i64 (i : Int) ∧ vj = .int .i64 (j : Int) ∧ Hid (∀ k (h : k < ds.length), k < i → ds[k].1 < u) ∧ Hid (∀ k (h : k < ds.length), j ≤ k → u ≤ ds[k].1) ∧ Below w.heap.size w wr) (fun vi vj _ => (intOf vj).toNat - (intOf vi).toNat)
  case atStart => exact ⟨0, n, by omega, by omega, rfl, rfl, fun k h hk => absurd hk (by omega), fun k h hk => absurd h (by have := HN.out; omega), Below.refl _ _⟩
  case round =>
    obtain ⟨i, j, hij, hjn, rfl, rfl, HI, HJ, hbel⟩ := hrel
    by_cases hlt : i < j
    · have hii : (i : Int) < j := by omega
      have hjb : (j : Int) ≤ 2000 := by omega
      obtain ⟨m, hm⟩ : ∃ m, (i + j) / 2 = m := ⟨_, rfl⟩
      have e1 : ((i : Int) + (j : Int)) / 2 = (m : Int) := by omega
      have hmn : (m : Int) < n := by omega
      have hmi : i ≤ m := by omega
      have hmj : m < j := by omega
      have hml : m < ds.length := by have := HN.out; omega
      obtain ⟨b, off, rfl, hb, hc0, hc1⟩ := (H.out.below hbel).at_ hml
      have hX := isE_iff.1 (HV.out _ (List.getElem_mem hml))
      have HLO : ds[m].1 < u → Hid (∀ k (h : k < ds.length), k < m + 1 → ds[k].1 < u) := fun hr k h hk => by
        by_cases e : k = m
        · subst e; exact hr
        · have := HP.out k m h hml (by omega); omega
      have HHI : u ≤ ds[m].1 → Hid (∀ k (h : k < ds.length), m ≤ k → u ≤ ds[k].1) := fun hr k h hk => by
        by_cases e : k = m
        · subst e; exact hr
        · have := HP.out m k hml h (by omega); omega
      obtain ⟨y, hy⟩ : ∃ y, ds[m] = y := ⟨_, rfl⟩
      rw [hy] at hc0 hc1 hX HLO HHI
      obtain ⟨r, q⟩ := y
      simp only at hc0 hc1 hX HLO HHI
      obtain ⟨hx0, hx1, -, -⟩ := hX
      have HF : Hid (∀ W, Calls Tryz.prog 157 #[.agg #[.int .i64 r, .int .i64 q], .int .i64 u] W fun e w' => e = .returned (.int .i64 (r - u)) ∧ Below W.heap.size W w') := fun W => find1_any r q u W hx0 hx1 h2 h3
      clear hml hy hm
      by_cases hr : r < u
      · have s0 : decide (r - u < 0) = true := by simp; omega
        have HG := HLO hr
        clear HLO HHI hr
        go_wp2_with (go_at_call 157; refine (HF.out _).mono ?_; rintro e w2 ⟨rfl, hb2⟩; have B2 := bel_on hbel hb2; clear hb2)
        go_roundw
        case rel => exact ⟨m + 1, j, by omega, by omega, by go_num, rfl, HG, HJ, B2⟩
        case measure => simp [intOf]; omega
      · have s0 : decide (r - u < 0) = false := by simp; omega
        have HG := HHI (by omega)
        clear HLO HHI hr
        go_wp2_with (go_at_call 157; refine (HF.out _).mono ?_; rintro e w2 ⟨rfl, hb2⟩; have B2 := bel_on hbel hb2; clear hb2)
        go_roundw
        case rel => exact ⟨i, m, by omega, by omega, rfl, rfl, HI, HG, B2⟩
        case measure => simp [intOf]; omega
    · obtain rfl : i = j := by omega
      have HLW : Hid (lowE ds u = i) := lowE_eq (ds := ds) (u := u) (by have := HN.out; omega) HI.out HJ.out
      by_cases hin : i < n
      · have hii : (i : Int) < n := by omega
        have hil : i < ds.length := by have := HN.out; omega
        obtain ⟨b, off, rfl, hb, hc0, hc1⟩ := (H.out.below hbel).at_ hil
        have hX := isE_iff.1 (HV.out _ (List.getElem_mem hil))
        have HHT : Hid (hitE ds u = (ds[i].1 - u == 0)) := by
          unfold Hid hitE
          rw [HLW.out, List.getD_eq_getElem?_getD, List.getElem?_eq_getElem hil, Bool.eq_iff_iff]
          simp only [Option.getD_some, decide_eq_true_eq, beq_iff_eq]
          omega
        obtain ⟨y, hy⟩ : ∃ y, ds[i] = y := ⟨_, rfl⟩
        rw [hy] at hc0 hc1 hX HHT
        obtain ⟨r, q⟩ := y
        simp only at hc0 hc1 hX HHT
        obtain ⟨hx0, hx1, -, -⟩ := hX
        have HF : Hid (∀ W, Calls Tryz.prog 157 #[.agg #[.int .i64 r, .int .i64 q], .int .i64 u] W fun e w' => e = .returned (.int .i64 (r - u)) ∧ Below W.heap.size W w') := fun W => find1_any r q u W hx0 hx1 h2 h3
        clear hil hy
        go_wp2_with (go_at_call 157; refine (HF.out _).mono ?_; rintro e w2 ⟨rfl, hb2⟩; have B2 := bel_on hbel hb2; clear hb2)
        go_ret2
        exact ⟨by rw [HHT.out, HLW.out]; rfl, B2⟩
      · obtain rfl : i = n := by omega
        have hii : (i : Int) ≤ i := Int.le_refl _
        have HHT : Hid (hitE ds u = false) := by
          unfold Hid hitE
          rw [HLW.out]
          exact decide_eq_false (by have := HN.out; omega)
        go_wp2_with fail
        go_ret2
        exact ⟨by rw [HHT.out, HLW.out]; rfl, hbel⟩
end Go.Proofs.YtinpiodfpnbllaaGreatDoor

/- The place of a receiver in a list: the program's. -/
namespace Go.Proofs.YtinpiodfpnbllaaGreatDoor
open Go.RowKit
set_option linter.unusedVariables false
set_option linter.unusedSimpArgs false

theorem valid_isE {es : List Ent} (h : validL es = true) : ∀ x ∈ es, isE x = true := fun x hx => isE_ok ((validL_iff.1 h).1 x hx)

set_option maxHeartbeats 4000000 in
set_option maxRecDepth 100000 in
theorem find_bad (es : List Ent) (u : Int) (A : Option Addr) (c : Nat) (w : World) {n : Nat} (hn : es.length = n) (h : ER w A c es) (hv : validL es = false) :
    Calls Tryz.prog 119 #[.slice A n c, .int .i64 u] w fun e w' => e = .returned (.tuple #[.slice none 0 0, .slice none 0 0, .int .i64 0, .bool false, .int .i64 90]) ∧ Below w.heap.size w w' := by
  have HC : Hid (Calls Tryz.prog 30 #[.slice A n c] w fun e w' => e = .returned (.int .i64 90) ∧ Below w.heap.size w w') := by
    have := checkList_any es A c w hn h
    rw [hv] at this
    exact this
  clear hn h hv
  go_enter Tryz.func119, Tryz.ntmps119
  go_wp2_with (go_at_call 30; refine HC.out.mono ?_; rintro e w1 ⟨rfl, b1⟩)
  refine bodyPost_ret (v := .tuple #[.slice none 0 0, .slice none 0 0, .int .i64 0, .bool false, .int .i64 90]) (by simp [results, Tryz.f119, go_sem]) rfl ⟨rfl, b1⟩

set_option maxHeartbeats 4000000 in
set_option maxRecDepth 100000 in
theorem find_out (es : List Ent) (u : Int) (A : Option Addr) (c : Nat) (w : World) {n : Nat} (hn : es.length = n) (h : ER w A c es) (hv : validL es = true) (hu : u < 0 ∨ 64 ≤ u) :
    Calls Tryz.prog 119 #[.slice A n c, .int .i64 u] w fun e w' => e = .returned (.tuple #[.slice none 0 0, .slice none 0 0, .int .i64 0, .bool false, .int .i64 2]) ∧ Below w.heap.size w w' := by
  have HC : Hid (Calls Tryz.prog 30 #[.slice A n c] w fun e w' => e = .returned (.int .i64 0) ∧ Below w.heap.size w w') := by
    have := checkList_any es A c w hn h
    rw [hv] at this
    exact this
  clear hn h hv
  by_cases h0 : u < 0
  · have s0 : decide (u < 0) = true := by simp [h0]
    clear hu
    go_enter Tryz.func119, Tryz.ntmps119
    go_wp2_with (go_at_call 30; refine HC.out.mono ?_; rintro e w1 ⟨rfl, b1⟩)
    refine bodyPost_ret (v := .tuple #[.slice none 0 0, .slice none 0 0, .int .i64 0, .bool false, .int .i64 2]) (by simp [results, Tryz.f119, go_sem]) rfl ⟨rfl, b1⟩
  · have h1 : 64 ≤ u := by omega
    have s0 : decide (u < 0) = false := by simp; omega
    have s1 : decide (64 ≤ u) = true := by simp [h1]
    clear hu
    go_enter Tryz.func119, Tryz.ntmps119
    go_wp2_with (go_at_call 30; refine HC.out.mono ?_; rintro e w1 ⟨rfl, b1⟩)
    refine bodyPost_ret (v := .tuple #[.slice none 0 0, .slice none 0 0, .int .i64 0, .bool false, .int .i64 2]) (by simp [results, Tryz.f119, go_sem]) rfl ⟨rfl, b1⟩

set_option maxHeartbeats 4000000 in
set_option maxRecDepth 100000 in
theorem find_any (es : List Ent) (u : Int) (A : Option Addr) (c : Nat) (w : World) {n : Nat} (hn : es.length = n) (h : ER w A c es) (hv : validL es = true) (h2 : 0 ≤ u) (h3 : u < 64) :
    Calls Tryz.prog 119 #[.slice A n c, .int .i64 u] w fun e w' => (∃ X x Y y, e = .returned (.tuple #[.slice X (n + 2) x, .slice Y (n + 2) y, .int .i64 (lowE (endedE es) u : Int), .bool (hitE (endedE es) u), .int .i64 0]) ∧ OE w.heap.size w' X x (endedE es) ∧ OK16 w.heap.size w' Y y (leavesE es)) ∧ Below w.heap.size w w' := by
  have hs : n ≤ 64 := by rw [← hn]; exact validL_length hv
  have HC : Hid (Calls Tryz.prog 30 #[.slice A n c] w fun e w' => e = .returned (.int .i64 0) ∧ Below w.heap.size w w') := by
    have := checkList_any es A c w hn h
    rw [hv] at this
    exact this
  have HE : Hid (∀ W, Below w.heap.size w W → Calls Tryz.prog 115 #[.slice A n c] W fun e w' => (∃ X x Y y, e = .returned (.tuple #[.slice X (n + 2) x, .slice Y (n + 2) y]) ∧ OE W.heap.size w' X x (endedE es) ∧ OK16 W.heap.size w' Y y (leavesE es)) ∧ Below W.heap.size W w') := fun W hW => ended_any es (valid_isE hv) A c W hn (h.below hW) (by omega)
  have HS : Hid (∀ X x W, ER W X x (endedE es) → Calls Tryz.prog 156 #[.slice X (n + 2) x, .int .i64 u, .func (.func 157) #[] #[]] W fun e w' => e = .returned (.tuple #[.int .i64 (lowE (endedE es) u : Int), .bool (hitE (endedE es) u)]) ∧ Below W.heap.size W w') := fun X x W hX => search_any (endedE es) u X x W (by rw [endedE_length, hn]) hX (endedE_pair hv) (endedE_isE (valid_isE hv)) h2 h3 (by omega)
  have HL : Hid ((endedE es).length = n + 2) := by unfold Hid; rw [endedE_length, hn]
  have s0 : decide (u < 0) = false := by simp; omega
  have s1 : decide (64 ≤ u) = false := by simp; omega
  generalize hitE (endedE es) u = ht at *
  generalize lowE (endedE es) u = lo at *
  generalize endedE es = ds at *
  generalize leavesE es = ls at *
  clear hn h hv h2 h3
  go_enter Tryz.func119, Tryz.ntmps119
  go_wp2_with (first
    | (go_at_call 30; refine HC.out.mono ?_; rintro e w1 ⟨rfl, b1⟩)
    | (go_at_call 115; refine (HE.out _ b1).mono ?_; rintro e w2 ⟨⟨X, x, Y, y, rfl, ho2, hk2⟩, hb2⟩; have b2 := bel_on b1 hb2; have O2 := Lib.hid (ho2.le_ b1.size); have K2 := Lib.hid (hk2.le_ b1.size); clear ho2 hk2 hb2)
    | (go_at_call 156; refine (HS.out _ _ _ (O2.out.er (by rw [HL.out]; omega))).mono ?_; rintro e w3 ⟨rfl, hb3⟩; have b3 := bel_on b2 hb3; have O3 := Lib.hid (O2.out.below hb3); have K3 := Lib.hid (K2.out.below hb3); clear hb3))
  refine bodyPost_ret (v := .tuple #[.slice X (n + 2) x, .slice Y (n + 2) y, .int .i64 (lo : Int), .bool ht, .int .i64 0]) (by simp [results, Tryz.f119, go_sem]) rfl ⟨⟨X, x, Y, y, rfl, O3.out, K3.out⟩, b3⟩
end Go.Proofs.YtinpiodfpnbllaaGreatDoor

/- The growth of a list: the program's. -/
namespace Go.Proofs.YtinpiodfpnbllaaGreatDoor
open Go.RowKit
set_option linter.unusedVariables false
set_option linter.unusedSimpArgs false

theorem blk3_set {w : World} {g : Nat} {t : TypeId} {x y z : Value} (h : Blk w g t #[x, y, z]) (u : Value) : Blk (w.setCell ⟨g, 2, none⟩ u) g t #[x, y, u] := by simpa using h.set_ 2 u

theorem op_skip {P : Program} {ops : Array Oper} {Q : Exit → Act → World → Prop} {a : Act} {w : World} {i : Nat} {oi : Oper} {K : Act → World → Prop} (w' : World) (hi : ops[i]? = some oi) (hg : oi.guard = none) (hrun : (execOp a.eval oi).run P w = .ok .skip w')
    (h : K (a.put oi.dst undef) w') : wpOp P ops Q i K a w := by
  have hw : Region.wanted oi (yielded ops a.tmps) = true := by simp [Region.wanted, hg]
  unfold wpOp
  simp only [hi, hw, if_true]
  refine .inl ?_
  unfold Oper.wp
  rw [hrun]
  exact h

set_option maxHeartbeats 4000000 in
set_option maxRecDepth 100000 in
theorem ProveGrowth_in (ks : List (List UInt8)) (i : Nat) (A : Option Addr) (c : Nat) (w : World) {n : Nat} (hn : ks.length = n) (hi1 : 1 ≤ i) (hi : i ≤ n) (hbig : n ≤ 128) (h : KR w A c ks) :
    Calls Tryz.prog 52 #[.slice A n c, .int .i64 (i : Int)] w fun e w' => PrEnd w.heap.size i n (partS ks i true) 0 e w' ∧ Below w.heap.size w w' := by
  obtain ⟨P0, hP0⟩ : ∃ P, P = partS ks i true := ⟨_, rfl⟩
  have HN := Lib.hid hn
  have HI := Lib.hid hi
  have HI1 := Lib.hid hi1
  have HH := Lib.hid h
  have HP0 := Lib.hid hP0
  have HBG := Lib.hid hbig
  have hnb : (n : Int) ≤ 128 := by omega
  have hin : (i : Int) ≤ (n : Int) := by omega
  have hi1i : (1 : Int) ≤ (i : Int) := by omega
  have b0 := (alloc_bel w (.cells #[.int .i64 0, .int .i64 0, .slice none 0 0] 80)).alloc (by simp) (.cells #[.int .i64 (i : Int), .int .i64 (n : Int), .slice none 0 0] 80)
  rw [← hP0]
  clear hP0 hn h hi hbig hi1
  go_enter Tryz.func52, Tryz.ntmps52
  go_wp2_with fail
  have hd1 : decide (n < i) = false := decide_eq_false (by have := HI.out; omega)
  simp only [hd1, Bool.or_false]
  clear hd1
  go_loopw [0, 1, 7] (fun v0 v1 v7 wr => ∃ (ls : List (List UInt8)) (m : Nat) (j : Nat) (B : Option Addr) (d : Nat) (os : List (List UInt8)) (q : Nat) (O : Option Addr) (co : Nat) (wh : Bool), v0 = .slice B m d ∧ v1 = .int .i64 (j : Int) ∧ v7 = .bool wh ∧ ls.length = m ∧ os.length = q ∧ 1 ≤ j ∧ j ≤ m ∧ m + q ≤ n ∧ KR w B d ls ∧ OK16 (w.heap.size + 2) wr O co os ∧ Keys16 os ∧ P0 = partS ls j wh ++ os.reverse ∧ Blk wr (w.heap.size + 1) 80 #[.int .i64 (i : Int), .int .i64 (n : Int), .slice O q co] ∧ Blk wr w.heap.size 80 #[.int .i64 0, .int .i64 0, .slice none 0 0] ∧ Below w.heap.size w wr) (fun v0 _ _ _ => lenV v0)
  case atStart => exact ⟨ks, n, i, A, c, [], 0, none, 0, true, rfl, rfl, rfl, HN.out, rfl, HI1.out, HI.out, by omega, HH.out, OK16.nil _ _, (by intro k hk; cases hk), (by rw [HP0.out]; simp), by have := Blk.new (w.alloc (.cells #[.int .i64 0, .int .i64 0, .slice none 0 0] 80)) 80 #[.int .i64 (i : Int), .int .i64 (n : Int), .slice none 0 0]; rw [World.size_alloc] at this; exact this, (Blk.new w _ _).alloc _, b0⟩
  case round =>
    obtain ⟨ls, m, j, B, d, os, q, O, co, wh, rfl, rfl, rfl, hls, hos, hj1, hj, hmq, hkr, hok, hk16, hP, hg, hr, hb⟩ := hrel
    have hbig := HBG.out
    have HB := Lib.hid hb
    have HOK := Lib.hid hok
    have HOS := Lib.hid hos
    have HKK := Lib.hid hk16
    have HG := Lib.hid hg
    have HR := Lib.hid hr
    have hgl : w.heap.size + 1 < wr.heap.size := hg.lt
    by_cases h2 : j < m
    · have hs1 := splitS_pos m
      have hs2 := splitS_lt (n := m) (by omega)
      have hcl : m ≤ d := by have := Rd.le hkr.1; omega
      have hmb : (m : Int) ≤ 128 := by omega
      have hgt : (j : Int) < (m : Int) := by omega
      have HSP : Hid (∀ W, Calls Tryz.prog 113 #[.int .i64 (m : Int)] W fun e w' => e = .returned (.int .i64 ((splitS m : Nat) : Int)) ∧ W = w') := fun W => split_any m W (by omega) (by omega)
      have hsl1 := fun W => slice_keys_to W B m d (splitS m) (by omega)
      have hsl2 := fun W => slice_keys_from W B m d (splitS m) (by omega)
      by_cases hk : j ≤ splitS m
      · have hjk : (j : Int) ≤ ((splitS m : Nat) : Int) := by omega
        have HPE : Hid (P0 = partS (ls.take (splitS m)) j wh ++ (os ++ [rootS (ls.drop (splitS m))]).reverse) := by unfold Hid; have := partS_low (l := ls) (m := j) wh (by omega) (by omega) (by rw [hls]; exact hk); rw [hls] at this; rw [hP, this]; simp
        have HRL : Hid ((rootS (ls.drop (splitS m))).length = 16) := rootS_length _
        have HLS : Hid ((ls.take (splitS m)).length = splitS m) := by unfold Hid; simp only [List.length_take, List.length_drop]; omega
        have HKR : Hid (KR w B d (ls.take (splitS m))) := hkr.take _ (by omega)
        have HRO : Hid (∀ W, Below wr.heap.size wr W → Calls Tryz.prog 79 #[.slice (dropK B (splitS m) d) (m - splitS m) (d - splitS m)] W fun e w' => e = .returned (.agg (cellsB (rootS (ls.drop (splitS m)))).toArray) ∧ Below W.heap.size W w') := fun W hW => root_any _ _ _ W (by rw [List.length_drop]; omega) (by omega) ((hkr.below (bel_on hb hW)).drop _ (by omega))
        generalize rootS (ls.drop (splitS m)) = r at HPE HRL HRO
        generalize ls.take (splitS m) = ls' at HPE HLS HKR
        generalize splitS m = k at *
        clear hP hkr hls hk ls hg hr hok
        go_wp2_with (go_at_call 113; refine (HSP.out _).mono ?_; rintro e w1 ⟨rfl, rfl⟩)
        refine wp_region_noPanic ?_
        refine wp_region_held_drew (S := fun _ => True) (by kernel_rfl) trivial (fun hS => ?_)
        refine hd_take 0 (_) rfl rfl (by kernel_rfl) (by kernel_rfl) (by kernel_rfl) (fun _ _ _ h => h) (fun w _ => by go_simp <;> rfl) hS ?_
        refine hd_take 2 (_) rfl rfl (by kernel_rfl) (by kernel_rfl) (by kernel_rfl) (fun _ _ _ h => h) (fun w _ => by go_simp <;> rfl) hS ?_
        refine hd_take 3 (_) rfl rfl (by kernel_rfl) (by kernel_rfl) (by kernel_rfl) (fun _ _ _ h => h) (fun w _ => by go_simp <;> rfl) hS ?_
        refine hd_take 8 (_) rfl rfl (by kernel_rfl) (by kernel_rfl) (by kernel_rfl) (fun _ _ _ h => h) (fun w _ => by go_simp <;> rfl) hS ?_
        refine hd_take 9 (_) rfl rfl (by kernel_rfl) (by kernel_rfl) (by kernel_rfl) (fun _ _ _ h => h) (fun w _ => by go_simp <;> rfl) hS ?_
        simp only [List.getElem_toArray, List.getElem_cons_succ, List.getElem_cons_zero, Act.put, List.setIfInBounds_toArray, List.set_cons_zero, List.set_cons_succ]
        refine hd_take 4 (_) rfl rfl (by kernel_rfl) (by kernel_rfl) (by kernel_rfl) (fun _ _ _ h => h) (fun w _ => by go_simp <;> rfl) hS ?_
        refine hd_take 10 (_) rfl rfl (by kernel_rfl) (by kernel_rfl) (by kernel_rfl) (fun _ _ _ h => h) (fun w _ => by go_simp <;> rfl) hS ?_
        simp only [List.getElem_toArray, List.getElem_cons_succ, List.getElem_cons_zero, Act.put, List.setIfInBounds_toArray, List.set_cons_zero, List.set_cons_succ]
        have LC : wr.drew.cell? ⟨w.heap.size + 1, 2, none⟩ = some (.slice O q co) := HG.out.cell 2
        refine' (fun (HIN : ∀ w4, Below wr.drew.heap.size wr.drew w4 → (_ : World → Prop) w4) => _) _
        rotate_left
        · refine hd_two 1 5 (by kernel_rfl) (op_run (.slice O q co) wr.drew rfl rfl (by simp [go_sem, LC]) ⟨trivial, ?_⟩) (op_call 79 #[.slice (dropK B k d) (m - k) (d - k)] rfl rfl (by go_simp) ((HRO.out _ (Below.refl _ _).drew).mono ?_))
          · simp only [List.getElem_toArray, List.getElem_cons_succ, List.getElem_cons_zero, Act.put, List.setIfInBounds_toArray, List.set_cons_zero, List.set_cons_succ]
            refine hd_calls 5 79 #[.slice (dropK B k d) (m - k) (d - k)] rfl rfl (by kernel_rfl) (by go_simp) ((HRO.out _ (Below.refl _ _).drew).mono ?_)
            rintro e w4 ⟨rfl, hb4⟩
            refine ⟨_, rfl, trivial, ?_⟩
            simp only [List.getElem_toArray, List.getElem_cons_succ, List.getElem_cons_zero, Act.put, List.setIfInBounds_toArray, List.set_cons_zero, List.set_cons_succ]
            refine hd_sole 6 (by kernel_rfl) (op_buildKey r _ HRL.out rfl rfl rfl rfl ⟨trivial, ?_⟩)
            simp only [List.getElem_toArray, List.getElem_cons_succ, List.getElem_cons_zero, Act.put, List.setIfInBounds_toArray, List.set_cons_zero, List.set_cons_succ]
            exact HIN w4 hb4
          · rintro e w4 ⟨rfl, hb4⟩
            refine ⟨_, rfl, trivial, ?_⟩
            simp only [List.getElem_toArray, List.getElem_cons_succ, List.getElem_cons_zero, Act.put, List.setIfInBounds_toArray, List.set_cons_zero, List.set_cons_succ]
            have LC4 : w4.cell? ⟨w.heap.size + 1, 2, none⟩ = some (.slice O q co) := (hb4.cell (p := ⟨w.heap.size + 1, 2, none⟩) hgl).trans LC
            have LC5 : (w4.alloc (.cells (cellsB r).toArray 24)).cell? ⟨w.heap.size + 1, 2, none⟩ = some (.slice O q co) := ((alloc_bel w4 _).cell (p := ⟨w.heap.size + 1, 2, none⟩) (Nat.lt_of_lt_of_le hgl hb4.size)).trans LC4
            refine hd_two 1 6 (by kernel_rfl) (op_run (.slice O q co) w4 rfl rfl (by simp [go_sem, LC4]) ⟨trivial, ?_⟩) (op_buildKey r _ HRL.out rfl rfl rfl rfl ⟨trivial, ?_⟩)
            · simp only [List.getElem_toArray, List.getElem_cons_succ, List.getElem_cons_zero, Act.put, List.setIfInBounds_toArray, List.set_cons_zero, List.set_cons_succ]
              refine hd_sole 6 (by kernel_rfl) (op_buildKey r _ HRL.out rfl rfl rfl rfl ⟨trivial, ?_⟩)
              simp only [List.getElem_toArray, List.getElem_cons_succ, List.getElem_cons_zero, Act.put, List.setIfInBounds_toArray, List.set_cons_zero, List.set_cons_succ]
              exact HIN w4 hb4
            · simp only [List.getElem_toArray, List.getElem_cons_succ, List.getElem_cons_zero, Act.put, List.setIfInBounds_toArray, List.set_cons_zero, List.set_cons_succ]
              refine hd_sole 1 (by kernel_rfl) (op_run (.slice O q co) _ rfl rfl (by simp [go_sem, LC5] <;> rfl) ⟨trivial, ?_⟩)
              simp only [List.getElem_toArray, List.getElem_cons_succ, List.getElem_cons_zero, Act.put, List.setIfInBounds_toArray, List.set_cons_zero, List.set_cons_succ]
              exact HIN w4 hb4
        · intro w4 hb4
          have b4 : Below wr.heap.size wr w4 := bel_on (Below.refl _ _).drew hb4
          have ho4 := HOK.out.below b4
          have hg4 := HG.out.below' b4
          have hr4 := HR.out.below' b4
          have ho5 := ho4.below (alloc_bel w4 (.cells (cellsB r).toArray 24))
          have hg5 := hg4.alloc (.cells (cellsB r).toArray 24)
          have hr5 := hr4.alloc (.cells (cellsB r).toArray 24)
          have b5 := b4.alloc b4.size (.cells (cellsB r).toArray 24)
          have hsrc := src_key w4 HRL.out
          have hz5 : w.heap.size + 2 ≤ (w4.alloc (.cells (cellsB r).toArray 24)).heap.size := by have := b5.size; omega
          refine hd_appendK 7 (.tmp 37) (.tmp 42) rfl rfl rfl (by kernel_rfl) (w.heap.size + 2) O q co os HOS.out rfl ho5 _ 1 1 [r] rfl rfl hsrc (by omega) hz5 ?_
          intro A6 c6 w6 ho6 hb6
          have hg6 := hg5.below hb6 (by omega)
          have hr6 := hr5.below hb6 (by omega)
          refine ⟨trivial, ?_⟩
          simp only [List.getElem_toArray, List.getElem_cons_succ, List.getElem_cons_zero, Act.put, List.setIfInBounds_toArray, List.set_cons_zero, List.set_cons_succ]
          refine hd_take 11 (.pointer (some ⟨w.heap.size + 1, 2, none⟩)) rfl rfl (by kernel_rfl) (by kernel_rfl) (by kernel_rfl) (fun _ _ _ h => h) (fun w _ => by go_simp) trivial ?_
          simp only [List.getElem_toArray, List.getElem_cons_succ, List.getElem_cons_zero, Act.put, List.setIfInBounds_toArray, List.set_cons_zero, List.set_cons_succ]
          have hc6 : (w6.cell? ⟨w.heap.size + 1, 2, none⟩) = some (.slice O q co) := hg6.cell 2
          have hf6 : w6.frozen? ⟨w.heap.size + 1, 2, none⟩ = false := hg6.frozen 2
          refine hd_sole 12 (by kernel_rfl) (op_skip (w6.setCell ⟨w.heap.size + 1, 2, none⟩ (.slice A6 (q + 1) c6)) rfl rfl (by simp [go_sem, hc6, hf6]) ⟨trivial, ?_⟩)
          simp only [List.getElem_toArray, List.getElem_cons_succ, List.getElem_cons_zero, Act.put, List.setIfInBounds_toArray, List.set_cons_zero, List.set_cons_succ]
          have ho7 := ho6.set_low ⟨w.heap.size + 1, 2, none⟩ (.slice A6 (q + 1) c6) (by simp)
          have hg7 := blk3_set hg6 (.slice A6 (q + 1) c6)
          have hr7 := hr6.far (p := ⟨w.heap.size + 1, 2, none⟩) (by simp) (.slice A6 (q + 1) c6)
          have HO7 := Lib.hid ho7
          have HG7 := Lib.hid hg7
          have HR7 := Lib.hid hr7
          have b7 : Below w.heap.size w (w6.setCell ⟨w.heap.size + 1, 2, none⟩ (.slice A6 (q + 1) c6)) := ((HB.out.trans (Below.mono b5 HB.out.size)).trans (hb6.mono (by omega))).setCell (by simp) _
          generalize w6.setCell ⟨w.heap.size + 1, 2, none⟩ (.slice A6 (q + 1) c6) = w7 at *
          clear ho7 hg7 hr7 ho6 hg6 hr6 ho5 hg5 hr5 ho4 hg4 hr4 hsrc hc6 hf6
          refine hd_take 13 (_) rfl rfl (by kernel_rfl) (by kernel_rfl) (by kernel_rfl) (fun _ _ _ h => h) (fun w _ => by go_simp <;> rfl) trivial ?_
          simp only [List.getElem_toArray, List.getElem_cons_succ, List.getElem_cons_zero, Act.put, List.setIfInBounds_toArray, List.set_cons_zero, List.set_cons_succ]
          refine wpAnyH_done (by kernel_rfl) (NoPanic.normal ?_) _
          go_wp2_with fail
          go_roundw
          case rel => exact ⟨_, k, j, B, d, os ++ [r], q + 1, A6, c6, wh, rfl, rfl, rfl, HLS.out, by rw [List.length_append, HOS.out]; rfl, hj1, by omega, by omega, HKR.out, HO7.out, HKK.out.snoc HRL.out, HPE.out, HG7.out, HR7.out, b7⟩
          case measure => simp only [lenV]; omega
      · have hjk : ¬ (j : Int) ≤ ((splitS m : Nat) : Int) := by omega
        have hjk2 : ((splitS m : Nat) : Int) < (j : Int) := by omega
        have hwj : IntKind.i64.wrap ((j : Int) - ((splitS m : Nat) : Int)) = (j : Int) - ((splitS m : Nat) : Int) := by rw [IntKind.wrap_i64]; omega
        have HPE : Hid (P0 = partS (ls.drop (splitS m)) (j - splitS m) false ++ (os ++ [rootS (ls.take (splitS m))]).reverse) := by unfold Hid; have := partS_high (l := ls) (m := j) wh (by omega) (by omega) (by rw [hls]; exact hk); rw [hls] at this; rw [hP, this]; simp
        have HRL : Hid ((rootS (ls.take (splitS m))).length = 16) := rootS_length _
        have HLS : Hid ((ls.drop (splitS m)).length = m - splitS m) := by unfold Hid; simp only [List.length_take, List.length_drop]; omega
        have HKR : Hid (KR w (dropK B (splitS m) d) (d - splitS m) (ls.drop (splitS m))) := hkr.drop _ (by omega)
        have HRO : Hid (∀ W, Below wr.heap.size wr W → Calls Tryz.prog 79 #[.slice B (splitS m) d] W fun e w' => e = .returned (.agg (cellsB (rootS (ls.take (splitS m)))).toArray) ∧ Below W.heap.size W w') := fun W hW => root_any _ _ _ W (by rw [List.length_take]; omega) (by omega) ((hkr.below (bel_on hb hW)).take _ (by omega))
        generalize rootS (ls.take (splitS m)) = r at HPE HRL HRO
        generalize ls.drop (splitS m) = ls' at HPE HLS HKR
        generalize splitS m = k at *
        clear hP hkr hls hk ls hg hr hok
        go_wp2_with (go_at_call 113; refine (HSP.out _).mono ?_; rintro e w1 ⟨rfl, rfl⟩)
        refine wp_region_noPanic ?_
        refine wp_region_held_drew (S := fun _ => True) (by kernel_rfl) trivial (fun hS => ?_)
        refine hd_take 0 (_) rfl rfl (by kernel_rfl) (by kernel_rfl) (by kernel_rfl) (fun _ _ _ h => h) (fun w _ => by go_simp <;> rfl) hS ?_
        refine hd_take 2 (_) rfl rfl (by kernel_rfl) (by kernel_rfl) (by kernel_rfl) (fun _ _ _ h => h) (fun w _ => by go_simp <;> rfl) hS ?_
        refine hd_take 3 (_) rfl rfl (by kernel_rfl) (by kernel_rfl) (by kernel_rfl) (fun _ _ _ h => h) (fun w _ => by go_simp <;> rfl) hS ?_
        refine hd_take 8 (_) rfl rfl (by kernel_rfl) (by kernel_rfl) (by kernel_rfl) (fun _ _ _ h => h) (fun w _ => by go_simp <;> rfl) hS ?_
        refine hd_take 9 (_) rfl rfl (by kernel_rfl) (by kernel_rfl) (by kernel_rfl) (fun _ _ _ h => h) (fun w _ => by go_simp <;> rfl) hS ?_
        refine hd_take 11 (_) rfl rfl (by kernel_rfl) (by kernel_rfl) (by kernel_rfl) (fun _ _ _ h => h) (fun w _ => by go_simp <;> rfl) hS ?_
        refine hd_take 12 (_) rfl rfl (by kernel_rfl) (by kernel_rfl) (by kernel_rfl) (fun _ _ _ h => h) (fun w _ => by go_simp <;> rfl) hS ?_
        simp only [List.getElem_toArray, List.getElem_cons_succ, List.getElem_cons_zero, Act.put, List.setIfInBounds_toArray, List.set_cons_zero, List.set_cons_succ]
        refine hd_take 4 (_) rfl rfl (by kernel_rfl) (by kernel_rfl) (by kernel_rfl) (fun _ _ _ h => h) (fun w _ => by go_simp <;> rfl) hS ?_
        refine hd_take 10 (_) rfl rfl (by kernel_rfl) (by kernel_rfl) (by kernel_rfl) (fun _ _ _ h => h) (fun w _ => by go_simp <;> rfl) hS ?_
        refine hd_take 13 (_) rfl rfl (by kernel_rfl) (by kernel_rfl) (by kernel_rfl) (fun _ _ _ h => h) (fun w _ => by go_simp <;> rfl) hS ?_
        simp only [List.getElem_toArray, List.getElem_cons_succ, List.getElem_cons_zero, Act.put, List.setIfInBounds_toArray, List.set_cons_zero, List.set_cons_succ]
        have LC : wr.drew.cell? ⟨w.heap.size + 1, 2, none⟩ = some (.slice O q co) := HG.out.cell 2
        refine' (fun (HIN : ∀ w4, Below wr.drew.heap.size wr.drew w4 → (_ : World → Prop) w4) => _) _
        rotate_left
        · refine hd_two 1 5 (by kernel_rfl) (op_run (.slice O q co) wr.drew rfl rfl (by simp [go_sem, LC]) ⟨trivial, ?_⟩) (op_call 79 #[.slice B k d] rfl rfl (by go_simp) ((HRO.out _ (Below.refl _ _).drew).mono ?_))
          · simp only [List.getElem_toArray, List.getElem_cons_succ, List.getElem_cons_zero, Act.put, List.setIfInBounds_toArray, List.set_cons_zero, List.set_cons_succ]
            refine hd_calls 5 79 #[.slice B k d] rfl rfl (by kernel_rfl) (by go_simp) ((HRO.out _ (Below.refl _ _).drew).mono ?_)
            rintro e w4 ⟨rfl, hb4⟩
            refine ⟨_, rfl, trivial, ?_⟩
            simp only [List.getElem_toArray, List.getElem_cons_succ, List.getElem_cons_zero, Act.put, List.setIfInBounds_toArray, List.set_cons_zero, List.set_cons_succ]
            refine hd_sole 6 (by kernel_rfl) (op_buildKey r _ HRL.out rfl rfl rfl rfl ⟨trivial, ?_⟩)
            simp only [List.getElem_toArray, List.getElem_cons_succ, List.getElem_cons_zero, Act.put, List.setIfInBounds_toArray, List.set_cons_zero, List.set_cons_succ]
            exact HIN w4 hb4
          · rintro e w4 ⟨rfl, hb4⟩
            refine ⟨_, rfl, trivial, ?_⟩
            simp only [List.getElem_toArray, List.getElem_cons_succ, List.getElem_cons_zero, Act.put, List.setIfInBounds_toArray, List.set_cons_zero, List.set_cons_succ]
            have LC4 : w4.cell? ⟨w.heap.size + 1, 2, none⟩ = some (.slice O q co) := (hb4.cell (p := ⟨w.heap.size + 1, 2, none⟩) hgl).trans LC
            have LC5 : (w4.alloc (.cells (cellsB r).toArray 24)).cell? ⟨w.heap.size + 1, 2, none⟩ = some (.slice O q co) := ((alloc_bel w4 _).cell (p := ⟨w.heap.size + 1, 2, none⟩) (Nat.lt_of_lt_of_le hgl hb4.size)).trans LC4
            refine hd_two 1 6 (by kernel_rfl) (op_run (.slice O q co) w4 rfl rfl (by simp [go_sem, LC4]) ⟨trivial, ?_⟩) (op_buildKey r _ HRL.out rfl rfl rfl rfl ⟨trivial, ?_⟩)
            · simp only [List.getElem_toArray, List.getElem_cons_succ, List.getElem_cons_zero, Act.put, List.setIfInBounds_toArray, List.set_cons_zero, List.set_cons_succ]
              refine hd_sole 6 (by kernel_rfl) (op_buildKey r _ HRL.out rfl rfl rfl rfl ⟨trivial, ?_⟩)
              simp only [List.getElem_toArray, List.getElem_cons_succ, List.getElem_cons_zero, Act.put, List.setIfInBounds_toArray, List.set_cons_zero, List.set_cons_succ]
              exact HIN w4 hb4
            · simp only [List.getElem_toArray, List.getElem_cons_succ, List.getElem_cons_zero, Act.put, List.setIfInBounds_toArray, List.set_cons_zero, List.set_cons_succ]
              refine hd_sole 1 (by kernel_rfl) (op_run (.slice O q co) _ rfl rfl (by simp [go_sem, LC5] <;> rfl) ⟨trivial, ?_⟩)
              simp only [List.getElem_toArray, List.getElem_cons_succ, List.getElem_cons_zero, Act.put, List.setIfInBounds_toArray, List.set_cons_zero, List.set_cons_succ]
              exact HIN w4 hb4
        · intro w4 hb4
          have b4 : Below wr.heap.size wr w4 := bel_on (Below.refl _ _).drew hb4
          have ho4 := HOK.out.below b4
          have hg4 := HG.out.below' b4
          have hr4 := HR.out.below' b4
          have ho5 := ho4.below (alloc_bel w4 (.cells (cellsB r).toArray 24))
          have hg5 := hg4.alloc (.cells (cellsB r).toArray 24)
          have hr5 := hr4.alloc (.cells (cellsB r).toArray 24)
          have b5 := b4.alloc b4.size (.cells (cellsB r).toArray 24)
          have hsrc := src_key w4 HRL.out
          have hz5 : w.heap.size + 2 ≤ (w4.alloc (.cells (cellsB r).toArray 24)).heap.size := by have := b5.size; omega
          refine hd_appendK 7 (.tmp 49) (.tmp 54) rfl rfl rfl (by kernel_rfl) (w.heap.size + 2) O q co os HOS.out rfl ho5 _ 1 1 [r] rfl rfl hsrc (by omega) hz5 ?_
          intro A6 c6 w6 ho6 hb6
          have hg6 := hg5.below hb6 (by omega)
          have hr6 := hr5.below hb6 (by omega)
          refine ⟨trivial, ?_⟩
          simp only [List.getElem_toArray, List.getElem_cons_succ, List.getElem_cons_zero, Act.put, List.setIfInBounds_toArray, List.set_cons_zero, List.set_cons_succ]
          refine hd_take 14 (.pointer (some ⟨w.heap.size + 1, 2, none⟩)) rfl rfl (by kernel_rfl) (by kernel_rfl) (by kernel_rfl) (fun _ _ _ h => h) (fun w _ => by go_simp) trivial ?_
          simp only [List.getElem_toArray, List.getElem_cons_succ, List.getElem_cons_zero, Act.put, List.setIfInBounds_toArray, List.set_cons_zero, List.set_cons_succ]
          have hc6 : (w6.cell? ⟨w.heap.size + 1, 2, none⟩) = some (.slice O q co) := hg6.cell 2
          have hf6 : w6.frozen? ⟨w.heap.size + 1, 2, none⟩ = false := hg6.frozen 2
          refine hd_sole 15 (by kernel_rfl) (op_skip (w6.setCell ⟨w.heap.size + 1, 2, none⟩ (.slice A6 (q + 1) c6)) rfl rfl (by simp [go_sem, hc6, hf6]) ⟨trivial, ?_⟩)
          simp only [List.getElem_toArray, List.getElem_cons_succ, List.getElem_cons_zero, Act.put, List.setIfInBounds_toArray, List.set_cons_zero, List.set_cons_succ]
          have ho7 := ho6.set_low ⟨w.heap.size + 1, 2, none⟩ (.slice A6 (q + 1) c6) (by simp)
          have hg7 := blk3_set hg6 (.slice A6 (q + 1) c6)
          have hr7 := hr6.far (p := ⟨w.heap.size + 1, 2, none⟩) (by simp) (.slice A6 (q + 1) c6)
          have HO7 := Lib.hid ho7
          have HG7 := Lib.hid hg7
          have HR7 := Lib.hid hr7
          have b7 : Below w.heap.size w (w6.setCell ⟨w.heap.size + 1, 2, none⟩ (.slice A6 (q + 1) c6)) := ((HB.out.trans (Below.mono b5 HB.out.size)).trans (hb6.mono (by omega))).setCell (by simp) _
          generalize w6.setCell ⟨w.heap.size + 1, 2, none⟩ (.slice A6 (q + 1) c6) = w7 at *
          clear ho7 hg7 hr7 ho6 hg6 hr6 ho5 hg5 hr5 ho4 hg4 hr4 hsrc hc6 hf6
          refine hd_take 16 (_) rfl rfl (by kernel_rfl) (by kernel_rfl) (by kernel_rfl) (fun _ _ _ h => h) (fun w _ => by go_simp <;> rfl) trivial ?_
          refine hd_take 17 (_) rfl rfl (by kernel_rfl) (by kernel_rfl) (by kernel_rfl) (fun _ _ _ h => h) (fun w _ => by go_simp <;> rfl) trivial ?_
          refine hd_take 18 (_) rfl rfl (by kernel_rfl) (by kernel_rfl) (by kernel_rfl) (fun _ _ _ h => h) (fun w _ => by go_simp <;> rfl) trivial ?_
          simp only [List.getElem_toArray, List.getElem_cons_succ, List.getElem_cons_zero, Act.put, List.setIfInBounds_toArray, List.set_cons_zero, List.set_cons_succ]
          refine wpAnyH_done (by kernel_rfl) (NoPanic.normal ?_) _
          go_wp2_with fail
          go_roundw
          case rel => exact ⟨_, m - k, j - k, _, _, os ++ [r], q + 1, A6, c6, false, rfl, by rw [show ((j - k : Nat) : Int) = (j : Int) - (k : Int) from by omega], rfl, HLS.out, by rw [List.length_append, HOS.out]; rfl, by omega, by omega, by omega, HKR.out, HO7.out, HKK.out.snoc HRL.out, HPE.out, HG7.out, HR7.out, b7⟩
          case measure => simp only [lenV]; omega
    · obtain rfl : j = m := by omega
      have hmb : (j : Int) ≤ 128 := by omega
      have hge : ¬ (j : Int) < (j : Int) := by omega
      cases wh with
      | true =>
        have hPA : P0 = os.reverse := by rw [hP, ← hls, partS_end]; rfl
        have hoA := hok
        have hkA := hk16
        have hqA := hos
        have hgA := hg
        have hrA := hr
        have hbA := hb
        clear hP hkr hls hos hok hk16 hg hr hb HB HOK HOS HKK HG HR ls
        have HOA := Lib.hid hoA
        have HKA := Lib.hid hkA
        have HPA := Lib.hid hPA
        have HQA := Lib.hid hqA
        have HGA := Lib.hid hgA
        have HRA := Lib.hid hrA
        have HBA := Lib.hid hbA
        have LC : wr.cell? ⟨w.heap.size + 1, 2, none⟩ = some (.slice O q co) := hgA.cell 2
        have HRV : Hid (∀ W, Below wr.heap.size wr W → Calls Tryz.prog 114 #[.slice O q co] W fun e w' => e = .returned (.tuple #[]) ∧ OK16 (w.heap.size + 2) w' O co P0 ∧ Below (w.heap.size + 2) W w') := fun W hW => by rw [hPA]; exact reverse_any os O co W hqA (hoA.below hW) hkA (by omega)
        have hgl2 : w.heap.size + 1 < wr.heap.size := hgA.lt
        have HPL : Hid (P0.length = q) := by unfold Hid; rw [hPA, List.length_reverse, hqA]
        clear hoA hkA hPA hqA hgA hrA hbA
        go_wp2_with (go_at_call 114; refine (HRV.out _ (Below.refl _ _)).mono ?_; rintro e w2 ⟨rfl, ho2, hb2⟩; have hg2 := HGA.out.below hb2 (by omega); have hr2 := HRA.out.below hb2 (by omega); have c0 : w2.cell? ⟨w.heap.size + 1, 0, none⟩ = some (.int .i64 (i : Int)) := hg2.cell 0; have c1 : w2.cell? ⟨w.heap.size + 1, 1, none⟩ = some (.int .i64 (n : Int)) := hg2.cell 1; have c2 : w2.cell? ⟨w.heap.size + 1, 2, none⟩ = some (.slice O q co) := hg2.cell 2; have r0 : w2.cell? ⟨w.heap.size, 0, none⟩ = some (.int .i64 0) := hr2.cell 0; have r1 : w2.cell? ⟨w.heap.size, 1, none⟩ = some (.int .i64 0) := hr2.cell 1; have r2 : w2.cell? ⟨w.heap.size, 2, none⟩ = some (.slice none 0 0) := hr2.cell 2; have f0 := hr2.frozen 0; have f1 := hr2.frozen 1; have f2 := hr2.frozen 2; have HO2 := Lib.hid ho2; have HB2 := Lib.hid (HBA.out.trans (hb2.mono (by omega))); clear ho2 hb2 hg2 hr2)
        refine bodyPost_ret (v := .tuple #[.agg #[.int .i64 (i : Int), .int .i64 (n : Int), .slice O q co], .int .i64 0]) (by simp [results, Tryz.f52, go_sem, c0, c1, c2, r0, r1, r2]) rfl ⟨⟨O, co, by show _ = Ending.returned (.tuple #[.agg #[.int .i64 (i : Int), .int .i64 (n : Int), .slice O P0.length co], .int .i64 0]); rw [HPL.out], (((HO2.out.set_low _ _ (by simp)).set_low _ _ (by simp)).set_low _ _ (by simp)).le_ (by omega)⟩, ((HB2.out.setCell (by simp) _).setCell (by simp) _).setCell (by simp) _⟩
      | false =>
        have HPE : Hid (P0 = (os ++ [rootS ls]).reverse) := by unfold Hid; rw [hP, ← hls, partS_end]; simp
        have HRL : Hid ((rootS ls).length = 16) := rootS_length _
        have HRO : Hid (∀ W, Below wr.heap.size wr W → Calls Tryz.prog 79 #[.slice B j d] W fun e w' => e = .returned (.agg (cellsB (rootS ls)).toArray) ∧ Below W.heap.size W w') := fun W hW => root_any _ _ _ W hls (by omega) (hkr.below (bel_on hb hW))
        generalize rootS ls = r at HPE HRL HRO
        clear hP hkr hls ls hg hr hok
        go_wp2_with fail
        refine wp_region_noPanic ?_
        refine wp_region_held_drew (S := fun _ => True) (by kernel_rfl) trivial (fun hS => ?_)
        refine hd_take 0 (_) rfl rfl (by kernel_rfl) (by kernel_rfl) (by kernel_rfl) (fun _ _ _ h => h) (fun w _ => by go_simp <;> rfl) hS ?_
        refine hd_take 2 (_) rfl rfl (by kernel_rfl) (by kernel_rfl) (by kernel_rfl) (fun _ _ _ h => h) (fun w _ => by go_simp <;> rfl) hS ?_
        simp only [List.getElem_toArray, List.getElem_cons_succ, List.getElem_cons_zero, Act.put, List.setIfInBounds_toArray, List.set_cons_zero, List.set_cons_succ]
        have LC : wr.drew.cell? ⟨w.heap.size + 1, 2, none⟩ = some (.slice O q co) := HG.out.cell 2
        refine' (fun (HIN : ∀ w4, Below wr.drew.heap.size wr.drew w4 → (_ : World → Prop) w4) => _) _
        rotate_left
        · refine hd_two 1 3 (by kernel_rfl) (op_run (.slice O q co) wr.drew rfl rfl (by simp [go_sem, LC]) ⟨trivial, ?_⟩) (op_call 79 #[.slice B j d] rfl rfl (by go_simp) ((HRO.out _ (Below.refl _ _).drew).mono ?_))
          · simp only [List.getElem_toArray, List.getElem_cons_succ, List.getElem_cons_zero, Act.put, List.setIfInBounds_toArray, List.set_cons_zero, List.set_cons_succ]
            refine hd_calls 3 79 #[.slice B j d] rfl rfl (by kernel_rfl) (by go_simp) ((HRO.out _ (Below.refl _ _).drew).mono ?_)
            rintro e w4 ⟨rfl, hb4⟩
            refine ⟨_, rfl, trivial, ?_⟩
            simp only [List.getElem_toArray, List.getElem_cons_succ, List.getElem_cons_zero, Act.put, List.setIfInBounds_toArray, List.set_cons_zero, List.set_cons_succ]
            refine hd_sole 4 (by kernel_rfl) (op_buildKey r _ HRL.out rfl rfl rfl rfl ⟨trivial, ?_⟩)
            simp only [List.getElem_toArray, List.getElem_cons_succ, List.getElem_cons_zero, Act.put, List.setIfInBounds_toArray, List.set_cons_zero, List.set_cons_succ]
            exact HIN w4 hb4
          · rintro e w4 ⟨rfl, hb4⟩
            refine ⟨_, rfl, trivial, ?_⟩
            simp only [List.getElem_toArray, List.getElem_cons_succ, List.getElem_cons_zero, Act.put, List.setIfInBounds_toArray, List.set_cons_zero, List.set_cons_succ]
            have LC4 : w4.cell? ⟨w.heap.size + 1, 2, none⟩ = some (.slice O q co) := (hb4.cell (p := ⟨w.heap.size + 1, 2, none⟩) hgl).trans LC
            have LC5 : (w4.alloc (.cells (cellsB r).toArray 24)).cell? ⟨w.heap.size + 1, 2, none⟩ = some (.slice O q co) := ((alloc_bel w4 _).cell (p := ⟨w.heap.size + 1, 2, none⟩) (Nat.lt_of_lt_of_le hgl hb4.size)).trans LC4
            refine hd_two 1 4 (by kernel_rfl) (op_run (.slice O q co) w4 rfl rfl (by simp [go_sem, LC4]) ⟨trivial, ?_⟩) (op_buildKey r _ HRL.out rfl rfl rfl rfl ⟨trivial, ?_⟩)
            · simp only [List.getElem_toArray, List.getElem_cons_succ, List.getElem_cons_zero, Act.put, List.setIfInBounds_toArray, List.set_cons_zero, List.set_cons_succ]
              refine hd_sole 4 (by kernel_rfl) (op_buildKey r _ HRL.out rfl rfl rfl rfl ⟨trivial, ?_⟩)
              simp only [List.getElem_toArray, List.getElem_cons_succ, List.getElem_cons_zero, Act.put, List.setIfInBounds_toArray, List.set_cons_zero, List.set_cons_succ]
              exact HIN w4 hb4
            · simp only [List.getElem_toArray, List.getElem_cons_succ, List.getElem_cons_zero, Act.put, List.setIfInBounds_toArray, List.set_cons_zero, List.set_cons_succ]
              refine hd_sole 1 (by kernel_rfl) (op_run (.slice O q co) _ rfl rfl (by simp [go_sem, LC5] <;> rfl) ⟨trivial, ?_⟩)
              simp only [List.getElem_toArray, List.getElem_cons_succ, List.getElem_cons_zero, Act.put, List.setIfInBounds_toArray, List.set_cons_zero, List.set_cons_succ]
              exact HIN w4 hb4
        · intro w4 hb4
          have b4 : Below wr.heap.size wr w4 := bel_on (Below.refl _ _).drew hb4
          have ho4 := HOK.out.below b4
          have hg4 := HG.out.below' b4
          have hr4 := HR.out.below' b4
          have ho5 := ho4.below (alloc_bel w4 (.cells (cellsB r).toArray 24))
          have hg5 := hg4.alloc (.cells (cellsB r).toArray 24)
          have hr5 := hr4.alloc (.cells (cellsB r).toArray 24)
          have b5 := b4.alloc b4.size (.cells (cellsB r).toArray 24)
          have hsrc := src_key w4 HRL.out
          have hz5 : w.heap.size + 2 ≤ (w4.alloc (.cells (cellsB r).toArray 24)).heap.size := by have := b5.size; omega
          refine hd_appendK 5 (.tmp 66) (.tmp 69) rfl rfl rfl (by kernel_rfl) (w.heap.size + 2) O q co os HOS.out rfl ho5 _ 1 1 [r] rfl rfl hsrc (by omega) hz5 ?_
          intro A6 c6 w6 ho6 hb6
          have hg6 := hg5.below hb6 (by omega)
          have hr6 := hr5.below hb6 (by omega)
          refine ⟨trivial, ?_⟩
          simp only [List.getElem_toArray, List.getElem_cons_succ, List.getElem_cons_zero, Act.put, List.setIfInBounds_toArray, List.set_cons_zero, List.set_cons_succ]
          refine hd_take 6 (.pointer (some ⟨w.heap.size + 1, 2, none⟩)) rfl rfl (by kernel_rfl) (by kernel_rfl) (by kernel_rfl) (fun _ _ _ h => h) (fun w _ => by go_simp) trivial ?_
          simp only [List.getElem_toArray, List.getElem_cons_succ, List.getElem_cons_zero, Act.put, List.setIfInBounds_toArray, List.set_cons_zero, List.set_cons_succ]
          have hc6 : (w6.cell? ⟨w.heap.size + 1, 2, none⟩) = some (.slice O q co) := hg6.cell 2
          have hf6 : w6.frozen? ⟨w.heap.size + 1, 2, none⟩ = false := hg6.frozen 2
          refine hd_sole 7 (by kernel_rfl) (op_skip (w6.setCell ⟨w.heap.size + 1, 2, none⟩ (.slice A6 (q + 1) c6)) rfl rfl (by simp [go_sem, hc6, hf6]) ⟨trivial, ?_⟩)
          simp only [List.getElem_toArray, List.getElem_cons_succ, List.getElem_cons_zero, Act.put, List.setIfInBounds_toArray, List.set_cons_zero, List.set_cons_succ]
          have ho7 := ho6.set_low ⟨w.heap.size + 1, 2, none⟩ (.slice A6 (q + 1) c6) (by simp)
          have hg7 := blk3_set hg6 (.slice A6 (q + 1) c6)
          have hr7 := hr6.far (p := ⟨w.heap.size + 1, 2, none⟩) (by simp) (.slice A6 (q + 1) c6)
          have HO7 := Lib.hid ho7
          have HG7 := Lib.hid hg7
          have HR7 := Lib.hid hr7
          have b7 : Below w.heap.size w (w6.setCell ⟨w.heap.size + 1, 2, none⟩ (.slice A6 (q + 1) c6)) := ((HB.out.trans (Below.mono b5 HB.out.size)).trans (hb6.mono (by omega))).setCell (by simp) _
          generalize w6.setCell ⟨w.heap.size + 1, 2, none⟩ (.slice A6 (q + 1) c6) = w7 at *
          clear ho7 hg7 hr7 ho6 hg6 hr6 ho5 hg5 hr5 ho4 hg4 hr4 hsrc hc6 hf6
          refine wpAnyH_done (by kernel_rfl) (NoPanic.normal ?_) _
          have hPA := HPE.out
          have hoA := HO7.out
          have hkA := HKK.out.snoc HRL.out
          have hqA : (os ++ [r]).length = q + 1 := by rw [List.length_append, HOS.out]; rfl
          have hgA := HG7.out
          have hrA := HR7.out
          have hbA := b7
          clear HPE HO7 HKK HOS HG7 HR7 b7 HB HOK HG HR HRO hk16 hos hb
          have HOA := Lib.hid hoA
          have HKA := Lib.hid hkA
          have HPA := Lib.hid hPA
          have HQA := Lib.hid hqA
          have HGA := Lib.hid hgA
          have HRA := Lib.hid hrA
          have HBA := Lib.hid hbA
          have LC : w7.cell? ⟨w.heap.size + 1, 2, none⟩ = some (.slice A6 (q + 1) c6) := hgA.cell 2
          have HRV : Hid (∀ W, Below w7.heap.size w7 W → Calls Tryz.prog 114 #[.slice A6 (q + 1) c6] W fun e w' => e = .returned (.tuple #[]) ∧ OK16 (w.heap.size + 2) w' A6 c6 P0 ∧ Below (w.heap.size + 2) W w') := fun W hW => by rw [hPA]; exact reverse_any (os ++ [r]) A6 c6 W hqA (hoA.below hW) hkA (by omega)
          have hgl2 : w.heap.size + 1 < w7.heap.size := hgA.lt
          have HPL : Hid (P0.length = (q + 1)) := by unfold Hid; rw [hPA, List.length_reverse, hqA]
          clear hoA hkA hPA hqA hgA hrA hbA
          go_wp2_with (go_at_call 114; refine (HRV.out _ (Below.refl _ _)).mono ?_; rintro e w2 ⟨rfl, ho2, hb2⟩; have hg2 := HGA.out.below hb2 (by omega); have hr2 := HRA.out.below hb2 (by omega); have c0 : w2.cell? ⟨w.heap.size + 1, 0, none⟩ = some (.int .i64 (i : Int)) := hg2.cell 0; have c1 : w2.cell? ⟨w.heap.size + 1, 1, none⟩ = some (.int .i64 (n : Int)) := hg2.cell 1; have c2 : w2.cell? ⟨w.heap.size + 1, 2, none⟩ = some (.slice A6 (q + 1) c6) := hg2.cell 2; have r0 : w2.cell? ⟨w.heap.size, 0, none⟩ = some (.int .i64 0) := hr2.cell 0; have r1 : w2.cell? ⟨w.heap.size, 1, none⟩ = some (.int .i64 0) := hr2.cell 1; have r2 : w2.cell? ⟨w.heap.size, 2, none⟩ = some (.slice none 0 0) := hr2.cell 2; have f0 := hr2.frozen 0; have f1 := hr2.frozen 1; have f2 := hr2.frozen 2; have HO2 := Lib.hid ho2; have HB2 := Lib.hid (HBA.out.trans (hb2.mono (by omega))); clear ho2 hb2 hg2 hr2)
          refine bodyPost_ret (v := .tuple #[.agg #[.int .i64 (i : Int), .int .i64 (n : Int), .slice A6 (q + 1) c6], .int .i64 0]) (by simp [results, Tryz.f52, go_sem, c0, c1, c2, r0, r1, r2]) rfl ⟨⟨A6, c6, by show _ = Ending.returned (.tuple #[.agg #[.int .i64 (i : Int), .int .i64 (n : Int), .slice A6 P0.length c6], .int .i64 0]); rw [HPL.out], (((HO2.out.set_low _ _ (by simp)).set_low _ _ (by simp)).set_low _ _ (by simp)).le_ (by omega)⟩, ((HB2.out.setCell (by simp) _).setCell (by simp) _).setCell (by simp) _⟩

set_option maxHeartbeats 1000000 in
theorem ProveGrowth_any (ks : List (List UInt8)) (i : Int) (A : Option Addr) (c : Nat) (w : World) {n : Nat} (hn : ks.length = n) (h : KR w A c ks) :
    Calls Tryz.prog 52 #[.slice A n c, .int .i64 i] w fun e w' => PrEnd w.heap.size (growthS ks i).a (growthS ks i).b (growthS ks i).P (growthS ks i).e e w' ∧ Below w.heap.size w w' := by
  have hnl : (n : Int) ≤ 140737488351232 := by have := h.len; omega
  have b0 := alloc_bel w (.cells #[.int .i64 0, .int .i64 0, .slice none 0 0] 80)
  rcases (by omega : 128 < n ∨ (n ≤ 128 ∧ i < 1) ∨ (n ≤ 128 ∧ 1 ≤ i ∧ (n : Int) < i) ∨ (n ≤ 128 ∧ 1 ≤ i ∧ i ≤ (n : Int))) with hw | ⟨hw, hl⟩ | ⟨hw, hl, hh⟩ | ⟨hw, hl, hh⟩
  · have hw2 : 128 < (n : Int) := by omega
    have HS : Hid (growthS ks i = ⟨0, 0, [], 4⟩) := by unfold Hid growthS; rw [if_pos (by omega)]
    clear hn h hw
    go_enter Tryz.func52, Tryz.ntmps52
    go_wp2
    exact bodyPost_ret (v := .tuple #[.agg #[.int .i64 0, .int .i64 0, .slice none 0 0], .int .i64 4]) (by simp [results, Tryz.f52, go_sem]) rfl ⟨⟨none, 0, by rw [HS.out]; rfl, by rw [HS.out]; exact OK16.nil _ _⟩, b0⟩
  · have hw2 : (n : Int) ≤ 128 := by omega
    have HS : Hid (growthS ks i = ⟨0, 0, [], 2⟩) := by unfold Hid growthS; rw [if_neg (by omega), if_pos (by omega)]
    clear hn h hw
    go_enter Tryz.func52, Tryz.ntmps52
    go_wp2
    exact bodyPost_ret (v := .tuple #[.agg #[.int .i64 0, .int .i64 0, .slice none 0 0], .int .i64 2]) (by simp [results, Tryz.f52, go_sem]) rfl ⟨⟨none, 0, by rw [HS.out]; rfl, by rw [HS.out]; exact OK16.nil _ _⟩, b0⟩
  · have hw2 : (n : Int) ≤ 128 := by omega
    have HS : Hid (growthS ks i = ⟨0, 0, [], 2⟩) := by unfold Hid growthS; rw [if_neg (by omega), if_pos (by omega)]
    clear hn h hw
    go_enter Tryz.func52, Tryz.ntmps52
    go_wp2
    exact bodyPost_ret (v := .tuple #[.agg #[.int .i64 0, .int .i64 0, .slice none 0 0], .int .i64 2]) (by simp [results, Tryz.f52, go_sem]) rfl ⟨⟨none, 0, by rw [HS.out]; rfl, by rw [HS.out]; exact OK16.nil _ _⟩, b0⟩
  · obtain ⟨j, rfl⟩ : ∃ j : Nat, i = (j : Int) := ⟨i.toNat, by omega⟩
    have HS : growthS ks (j : Int) = ⟨j, n, partS ks j true, 0⟩ := by unfold growthS; rw [if_neg (by omega), if_neg (by omega), hn, Int.toNat_natCast]
    rw [HS]
    exact ProveGrowth_in ks j A c w hn (by omega) (by omega) hw h
end Go.Proofs.YtinpiodfpnbllaaGreatDoor

/- The proof that a receiver is on a list: the program's. -/
namespace Go.Proofs.YtinpiodfpnbllaaGreatDoor
open Go.RowKit
set_option linter.unusedVariables false
set_option linter.unusedSimpArgs false

/-- What is returned: an entry, a proof, an error. -/
def OnEnd (B : Nat) (x : Ent) (a b : Int) (P : List (List UInt8)) (e0 : Int) (e : Ending) (w' : World) : Prop := ∃ A c, e = .returned (.tuple #[.agg (cellsX x).toArray, .agg (prC a b A P.length c).toArray, .int .i64 e0]) ∧ OK16 B w' A c P
structure OnV where
  x : Ent
  a : Int
  b : Int
  P : List (List UInt8)
  e : Int
def onS (es : List Ent) (u : Int) : OnV := if validL es = false then ⟨(0, 0), 0, 0, [], 90⟩ else if u < 0 ∨ 64 ≤ u then ⟨(0, 0), 0, 0, [], 2⟩ else if hitE (endedE es) u = false then ⟨(0, 0), 0, 0, [], 6⟩ else ⟨(endedE es).getD (lowE (endedE es) u) (0, 0), ((es.length + 2 : Nat) : Int), (lowE (endedE es) u : Int), pathS (leavesE es) (lowE (endedE es) u), 0⟩

set_option maxHeartbeats 4000000 in
set_option maxRecDepth 100000 in
theorem proveOn_bad (es : List Ent) (u : Int) (A : Option Addr) (c : Nat) (w : World) {n : Nat} (hn : es.length = n) (h : ER w A c es) (hv : validL es = false) :
    Calls Tryz.prog 57 #[.slice A n c, .int .i64 u] w fun e w' => OnEnd w.heap.size (onS es u).x (onS es u).a (onS es u).b (onS es u).P (onS es u).e e w' ∧ Below w.heap.size w w' := by
  have HS : Hid (onS es u = ⟨(0, 0), 0, 0, [], 90⟩) := by
    unfold Hid onS
    rw [if_pos hv]
  have b0 := alloc2_bel w (.cells #[.int .i64 0, .int .i64 0] 98) (.cells #[.int .i64 0, .int .i64 0, .slice none 0 0] 27)
  have HF : Hid (∀ W, Below w.heap.size w W → Calls Tryz.prog 119 #[.slice A n c, .int .i64 u] W fun e w' => e = .returned (.tuple #[.slice none 0 0, .slice none 0 0, .int .i64 0, .bool false, .int .i64 90]) ∧ Below W.heap.size W w') := fun W hW => find_bad es u A c W hn (h.below hW) hv
  clear hn h
  go_enter Tryz.func57, Tryz.ntmps57
  go_wp2_with (go_at_call 119; refine (HF.out _ b0).mono ?_; rintro e w1 ⟨rfl, hb1⟩; have b1 := Lib.hid (bel_on b0 hb1); have hz := hb1.size; obtain ⟨hc, hf⟩ := bcell hb1; clear hb1)
  have hlt : w.heap.size + 1 < w1.heap.size := by simp at hz; omega
  have hlt0 : w.heap.size < w1.heap.size := by omega
  have g0 : w.heap.size < ((w.alloc (.cells #[.int .i64 0, .int .i64 0] 98)).alloc (.cells #[.int .i64 0, .int .i64 0, .slice none 0 0] 27)).heap.size := by simp; omega
  have g1 : w.heap.size + 1 < ((w.alloc (.cells #[.int .i64 0, .int .i64 0] 98)).alloc (.cells #[.int .i64 0, .int .i64 0, .slice none 0 0] 27)).heap.size := by simp
  have k0 := (hc _ 0 g0).trans ((blk_b0 w _ _ _).cell 0)
  have k1 := (hc _ 1 g0).trans ((blk_b0 w _ _ _).cell 1)
  have k2 := (hc _ 0 g1).trans ((blk_b1 w _ _ _).cell 0)
  have k3 := (hc _ 1 g1).trans ((blk_b1 w _ _ _).cell 1)
  have k4 := (hc _ 2 g1).trans ((blk_b1 w _ _ _).cell 2)
  clear hc hf g0 g1
  refine bodyPost_ret (v := .tuple #[.agg #[.int .i64 0, .int .i64 0], .agg #[.int .i64 0, .int .i64 0, .slice none 0 0], .int .i64 90]) (by simp [results, Tryz.f57, go_sem, k0, k1, k2, k3, k4, hlt, hlt0]) rfl ⟨⟨none, 0, by rw [HS.out]; rfl, by rw [HS.out]; exact OK16.nil _ _⟩, ?_⟩
  exact ((((b1.out.setCell (by simp) _).setCell (by simp) _).setCell (by simp) _).setCell (by simp) _).setCell (by simp) _

set_option maxHeartbeats 4000000 in
set_option maxRecDepth 100000 in
theorem proveOn_out (es : List Ent) (u : Int) (A : Option Addr) (c : Nat) (w : World) {n : Nat} (hn : es.length = n) (h : ER w A c es) (hv : validL es = true) (hu : u < 0 ∨ 64 ≤ u) :
    Calls Tryz.prog 57 #[.slice A n c, .int .i64 u] w fun e w' => OnEnd w.heap.size (onS es u).x (onS es u).a (onS es u).b (onS es u).P (onS es u).e e w' ∧ Below w.heap.size w w' := by
  have HS : Hid (onS es u = ⟨(0, 0), 0, 0, [], 2⟩) := by
    unfold Hid onS
    rw [if_neg (by rw [hv]; simp), if_pos hu]
  have b0 := alloc2_bel w (.cells #[.int .i64 0, .int .i64 0] 98) (.cells #[.int .i64 0, .int .i64 0, .slice none 0 0] 27)
  have HF : Hid (∀ W, Below w.heap.size w W → Calls Tryz.prog 119 #[.slice A n c, .int .i64 u] W fun e w' => e = .returned (.tuple #[.slice none 0 0, .slice none 0 0, .int .i64 0, .bool false, .int .i64 2]) ∧ Below W.heap.size W w') := fun W hW => find_out es u A c W hn (h.below hW) hv hu
  clear hn h
  go_enter Tryz.func57, Tryz.ntmps57
  go_wp2_with (go_at_call 119; refine (HF.out _ b0).mono ?_; rintro e w1 ⟨rfl, hb1⟩; have b1 := Lib.hid (bel_on b0 hb1); have hz := hb1.size; obtain ⟨hc, hf⟩ := bcell hb1; clear hb1)
  have hlt : w.heap.size + 1 < w1.heap.size := by simp at hz; omega
  have hlt0 : w.heap.size < w1.heap.size := by omega
  have g0 : w.heap.size < ((w.alloc (.cells #[.int .i64 0, .int .i64 0] 98)).alloc (.cells #[.int .i64 0, .int .i64 0, .slice none 0 0] 27)).heap.size := by simp; omega
  have g1 : w.heap.size + 1 < ((w.alloc (.cells #[.int .i64 0, .int .i64 0] 98)).alloc (.cells #[.int .i64 0, .int .i64 0, .slice none 0 0] 27)).heap.size := by simp
  have k0 := (hc _ 0 g0).trans ((blk_b0 w _ _ _).cell 0)
  have k1 := (hc _ 1 g0).trans ((blk_b0 w _ _ _).cell 1)
  have k2 := (hc _ 0 g1).trans ((blk_b1 w _ _ _).cell 0)
  have k3 := (hc _ 1 g1).trans ((blk_b1 w _ _ _).cell 1)
  have k4 := (hc _ 2 g1).trans ((blk_b1 w _ _ _).cell 2)
  clear hc hf g0 g1
  refine bodyPost_ret (v := .tuple #[.agg #[.int .i64 0, .int .i64 0], .agg #[.int .i64 0, .int .i64 0, .slice none 0 0], .int .i64 2]) (by simp [results, Tryz.f57, go_sem, k0, k1, k2, k3, k4, hlt, hlt0]) rfl ⟨⟨none, 0, by rw [HS.out]; rfl, by rw [HS.out]; exact OK16.nil _ _⟩, ?_⟩
  exact ((((b1.out.setCell (by simp) _).setCell (by simp) _).setCell (by simp) _).setCell (by simp) _).setCell (by simp) _

set_option maxHeartbeats 4000000 in
set_option maxRecDepth 100000 in
theorem proveOn_miss (es : List Ent) (u : Int) (A : Option Addr) (c : Nat) (w : World) {n : Nat} (hn : es.length = n) (h : ER w A c es) (hv : validL es = true) (h2 : 0 ≤ u) (h3 : u < 64) (hh : hitE (endedE es) u = false) :
    Calls Tryz.prog 57 #[.slice A n c, .int .i64 u] w fun e w' => OnEnd w.heap.size (onS es u).x (onS es u).a (onS es u).b (onS es u).P (onS es u).e e w' ∧ Below w.heap.size w w' := by
  have HS : Hid (onS es u = ⟨(0, 0), 0, 0, [], 6⟩) := by
    unfold Hid onS
    rw [if_neg (by rw [hv]; simp), if_neg (by omega), if_pos hh]
  have b0 := alloc2_bel w (.cells #[.int .i64 0, .int .i64 0] 98) (.cells #[.int .i64 0, .int .i64 0, .slice none 0 0] 27)
  have HL : Hid ((endedE es).length = n + 2) := by unfold Hid; rw [endedE_length, hn]
  have HF : Hid (∀ W, Below w.heap.size w W → Calls Tryz.prog 119 #[.slice A n c, .int .i64 u] W fun e w' => (∃ X x Y y, e = .returned (.tuple #[.slice X (n + 2) x, .slice Y (n + 2) y, .int .i64 (lowE (endedE es) u : Int), .bool false, .int .i64 0]) ∧ OE W.heap.size w' X x (endedE es) ∧ OK16 W.heap.size w' Y y (leavesE es)) ∧ Below W.heap.size W w') := fun W hW => by
    have := find_any es u A c W hn (h.below hW) hv h2 h3
    rw [hh] at this
    exact this
  clear hn h
  go_enter Tryz.func57, Tryz.ntmps57
  go_wp2_with (go_at_call 119; refine (HF.out _ b0).mono ?_; rintro e w1 ⟨⟨X, x, Y, y, rfl, -, -⟩, hb1⟩; have b1 := Lib.hid (bel_on b0 hb1); have hz := hb1.size; obtain ⟨hc, hf⟩ := bcell hb1; clear hb1)
  have hlt : w.heap.size + 1 < w1.heap.size := by simp at hz; omega
  have hlt0 : w.heap.size < w1.heap.size := by omega
  have g0 : w.heap.size < ((w.alloc (.cells #[.int .i64 0, .int .i64 0] 98)).alloc (.cells #[.int .i64 0, .int .i64 0, .slice none 0 0] 27)).heap.size := by simp; omega
  have g1 : w.heap.size + 1 < ((w.alloc (.cells #[.int .i64 0, .int .i64 0] 98)).alloc (.cells #[.int .i64 0, .int .i64 0, .slice none 0 0] 27)).heap.size := by simp
  have k0 := (hc _ 0 g0).trans ((blk_b0 w _ _ _).cell 0)
  have k1 := (hc _ 1 g0).trans ((blk_b0 w _ _ _).cell 1)
  have k2 := (hc _ 0 g1).trans ((blk_b1 w _ _ _).cell 0)
  have k3 := (hc _ 1 g1).trans ((blk_b1 w _ _ _).cell 1)
  have k4 := (hc _ 2 g1).trans ((blk_b1 w _ _ _).cell 2)
  clear hc hf g0 g1
  refine bodyPost_ret (v := .tuple #[.agg #[.int .i64 0, .int .i64 0], .agg #[.int .i64 0, .int .i64 0, .slice none 0 0], .int .i64 6]) (by simp [results, Tryz.f57, go_sem, k0, k1, k2, k3, k4, hlt, hlt0]) rfl ⟨⟨none, 0, by rw [HS.out]; rfl, by rw [HS.out]; exact OK16.nil _ _⟩, ?_⟩
  exact ((((b1.out.setCell (by simp) _).setCell (by simp) _).setCell (by simp) _).setCell (by simp) _).setCell (by simp) _

theorem OE.set_low {B : Nat} {w : World} {A : Option Addr} {c : Nat} {es : List Ent} (h : OE B w A c es) (p : Addr) (u : Value) (hp : p.block < B) : OE B (w.setCell p u) A c es := by
  refine ⟨h.1, h.2.elim Or.inl fun ⟨g, cap, cur, hv, hg, hh, r⟩ => Or.inr ⟨g, cap, cur, hv, hg, ?_, r⟩⟩
  exact (Below.heap_setCell w p u g (by omega)).trans hh

set_option maxHeartbeats 4000000 in
set_option maxRecDepth 100000 in
theorem proveOn_hit (es : List Ent) (u : Int) (A : Option Addr) (c : Nat) (w : World) {n : Nat} (hn : es.length = n) (h : ER w A c es) (hv : validL es = true) (h2 : 0 ≤ u) (h3 : u < 64) (hh : hitE (endedE es) u = true) :
    Calls Tryz.prog 57 #[.slice A n c, .int .i64 u] w fun e w' => OnEnd w.heap.size (onS es u).x (onS es u).a (onS es u).b (onS es u).P (onS es u).e e w' ∧ Below w.heap.size w w' := by
  have hs : n ≤ 64 := by rw [← hn]; exact validL_length hv
  have hnb : (n : Int) ≤ 64 := by omega
  have HL : Hid ((endedE es).length = n + 2) := by unfold Hid; rw [endedE_length, hn]
  have HLL : Hid ((leavesE es).length = n + 2) := by unfold Hid; rw [leavesE_length, hn]
  have HA : Hid (All16 (leavesE es)) := leavesE_16 es
  have hlo : lowE (endedE es) u < n + 2 := by
    have := (of_decide_eq_true hh).2
    rw [HL.out] at this
    exact this
  have HS : Hid (onS es u = ⟨(endedE es).getD (lowE (endedE es) u) (0, 0), ((n + 2 : Nat) : Int), (lowE (endedE es) u : Int), pathS (leavesE es) (lowE (endedE es) u), 0⟩) := by
    unfold Hid onS
    rw [if_neg (by rw [hv]; simp), if_neg (by omega), if_neg (by rw [hh]; simp), hn]
  have b0 := alloc2_bel w (.cells #[.int .i64 0, .int .i64 0] 98) (.cells #[.int .i64 0, .int .i64 0, .slice none 0 0] 27)
  have HF : Hid (∀ W, Below w.heap.size w W → Calls Tryz.prog 119 #[.slice A n c, .int .i64 u] W fun e w' => (∃ X x Y y, e = .returned (.tuple #[.slice X (n + 2) x, .slice Y (n + 2) y, .int .i64 (lowE (endedE es) u : Int), .bool true, .int .i64 0]) ∧ OE W.heap.size w' X x (endedE es) ∧ OK16 W.heap.size w' Y y (leavesE es)) ∧ Below W.heap.size W w') := fun W hW => by
    have := find_any es u A c W hn (h.below hW) hv h2 h3
    rw [hh] at this
    exact this
  have HP : Hid (∀ Y y W, KR W Y y (leavesE es) → Calls Tryz.prog 78 #[.slice Y (n + 2) y, .int .i64 (lowE (endedE es) u : Int)] W fun e w' => (∃ A' c', e = .returned (.agg (prC (n + 2 : Nat) (lowE (endedE es) u) A' (pathS (leavesE es) (lowE (endedE es) u)).length c').toArray) ∧ OK16 W.heap.size w' A' c' (pathS (leavesE es) (lowE (endedE es) u))) ∧ Below W.heap.size W w') := fun Y y W hW => proof_any (leavesE es) (lowE (endedE es) u) Y y W HLL.out hlo (by omega) hW
  generalize pathS (leavesE es) (lowE (endedE es) u) = P at HP HS
  generalize lowE (endedE es) u = lo at *
  generalize endedE es = ds at *
  generalize leavesE es = ls at *
  have hll : lo < ds.length := by rw [HL.out]; exact hlo
  have HG : Hid (ds.getD lo (0, 0) = ds[lo]) := by unfold Hid; rw [List.getD_eq_getElem?_getD, List.getElem?_eq_getElem hll]; rfl
  rw [HG.out] at HS
  obtain ⟨m, hm⟩ : ∃ m, P.length = m := ⟨_, rfl⟩
  rw [hm] at HP
  have HM := Lib.hid hm
  have hli : (lo : Int) < (n : Int) + 2 := by omega
  clear hn h hv h2 h3 hm hh
  go_enter Tryz.func57, Tryz.ntmps57
  go_wp2_with (go_at_call 119; refine (HF.out _ b0).mono ?_; rintro e w1 ⟨⟨X, x, Y, y, rfl, ho1, hk1⟩, hb1⟩; have O1 := Lib.hid ho1; have K1 := Lib.hid hk1; have B1 := Lib.hid hb1; clear ho1 hk1 hb1)
  have b1 := bel_on b0 B1.out
  obtain ⟨W0, hW0⟩ : ∃ W : World, W = (w.alloc (.cells #[.int .i64 0, .int .i64 0] 98)).alloc (.cells #[.int .i64 0, .int .i64 0, .slice none 0 0] 27) := ⟨_, rfl⟩
  have Q0 : Blk W0 w.heap.size 98 #[.int .i64 0, .int .i64 0] := by rw [hW0]; exact blk_b0 _ _ _ _
  have Q1 : Blk W0 (w.heap.size + 1) 27 #[.int .i64 0, .int .i64 0, .slice none 0 0] := by rw [hW0]; exact blk_b1 _ _ _ _
  have hz0 : W0.heap.size = w.heap.size + 2 := by rw [hW0]; simp
  rw [← hW0] at b0 O1 K1 B1
  clear hW0
  have BD := Lib.hid (show Below W0.heap.size W0 w1.drew from B1.out.drew)
  have hb : ∃ b off, X = some ⟨b, off, none⟩ := by obtain ⟨b, off, e, _⟩ := (O1.out.er (by rw [HL.out]; omega)).at_ hll; exact ⟨b, off, e⟩
  obtain ⟨b, off, rfl⟩ := hb
  have HSX : Hid (∀ W, OE W0.heap.size W (some ⟨b, off, none⟩) x ds → W.cell? ⟨b, off + lo * 2, none⟩ = some (.int .i64 ds[lo].1) ∧ W.cell? ⟨b, off + lo * 2 + 1, none⟩ = some (.int .i64 ds[lo].2)) := fun W hW => by
    obtain ⟨b', off', e, _, c0, c1⟩ := (hW.er (by rw [HL.out]; omega)).at_ hll
    injection e with e
    injection e with e1 e2
    subst e1 e2
    exact ⟨c0, c1⟩
  obtain ⟨X0, hX0⟩ : ∃ X0, ds[lo] = X0 := ⟨_, rfl⟩
  rw [hX0] at HSX HS
  obtain ⟨r, q⟩ := X0
  simp only at HSX
  have O1d := Lib.hid (show OE W0.heap.size w1.drew (some ⟨b, off, none⟩) x ds from O1.out.below (Below.refl _ _).drew)
  have K1d := Lib.hid (show OK16 W0.heap.size w1.drew Y y ls from K1.out.below (Below.refl _ _).drew)
  clear hX0 hll HG
  refine wp_region_noPanic ?_
  refine wp_region_held_drew (S := fun w' => w'.cell? ⟨b, off + lo * 2, none⟩ = some (.int .i64 r) ∧ w'.cell? ⟨b, off + lo * 2 + 1, none⟩ = some (.int .i64 q)) (by kernel_rfl) (HSX.out _ O1d.out) (fun hS => ?_)
  refine hd_take 0 (_) rfl rfl (by kernel_rfl) (by kernel_rfl) (by kernel_rfl) (fun _ _ _ h => h) (fun w _ => by go_simp <;> rfl) hS ?_
  refine hd_take 1 (_) rfl rfl (by kernel_rfl) (by kernel_rfl) (by kernel_rfl) (fun _ _ _ h => h) (fun w _ => by go_simp <;> rfl) hS ?_
  refine hd_take 4 (_) rfl rfl (by kernel_rfl) (by kernel_rfl) (by kernel_rfl) (fun _ _ _ h => h) (fun w _ => by go_simp <;> rfl) hS ?_
  refine hd_take 5 (_) rfl rfl (by kernel_rfl) (by kernel_rfl) (by kernel_rfl) (fun _ _ _ h => h) (fun w _ => by go_simp <;> rfl) hS ?_
  simp only [List.getElem_toArray, List.getElem_cons_succ, List.getElem_cons_zero, Act.put, List.setIfInBounds_toArray, List.set_cons_zero, List.set_cons_succ]
  refine hd_take 2 (_) rfl rfl (by kernel_rfl) (by kernel_rfl) (by kernel_rfl) (fun _ _ _ h => h) (fun w _ => by go_simp <;> rfl) hS ?_
  simp only [List.getElem_toArray, List.getElem_cons_succ, List.getElem_cons_zero, Act.put, List.setIfInBounds_toArray, List.set_cons_zero, List.set_cons_succ]
  refine hd_take 3 (.agg #[.int .i64 r, .int .i64 q]) rfl rfl (by kernel_rfl) (by kernel_rfl) (by kernel_rfl) (fun _ _ _ h => h) (fun w h => by have hx := h.1; have hy := h.2; simp [go_sem, hx, hy]) hS ?_
  simp only [List.getElem_toArray, List.getElem_cons_succ, List.getElem_cons_zero, Act.put, List.setIfInBounds_toArray, List.set_cons_zero, List.set_cons_succ]
  refine hd_calls 6 78 #[.slice Y (n + 2) y, .int .i64 (lo : Int)] rfl rfl (by kernel_rfl) (by go_simp <;> rfl) ?_
  refine (HP.out _ _ _ (K1d.out.kr (fun k hk => HA.out k hk) (by rw [HLL.out]; omega))).mono ?_
  rintro e w2 ⟨⟨A2, c2, rfl, ho2⟩, hb2⟩
  have D2 := bel_on BD.out hb2
  have O2 := O1d.out.below hb2
  refine ⟨_, rfl, HSX.out _ O2, ?_⟩
  simp only [List.getElem_toArray, List.getElem_cons_succ, List.getElem_cons_zero, Act.put, List.setIfInBounds_toArray, List.set_cons_zero, List.set_cons_succ]
  have P2 : OK16 W0.heap.size w2 A2 c2 P := ho2.le_ BD.out.size
  have k0 := (Q0.below' D2).cell 0
  have k1 := (Q0.below' D2).cell 1
  have f0 := (Q0.below' D2).frozen 0
  have f1 := (Q0.below' D2).frozen 1
  have k2 := (Q1.below' D2).cell 0
  have k3 := (Q1.below' D2).cell 1
  have k4 := (Q1.below' D2).cell 2
  have f2 := (Q1.below' D2).frozen 0
  have f3 := (Q1.below' D2).frozen 1
  have f4 := (Q1.below' D2).frozen 2
  have O3 := (O2.set_low ⟨w.heap.size, 0, none⟩ (.int .i64 r) (by simp; omega)).set_low ⟨w.heap.size, 1, none⟩ (.int .i64 q) (by simp; omega)
  have P3 := (P2.set_low ⟨w.heap.size, 0, none⟩ (.int .i64 r) (by simp; omega)).set_low ⟨w.heap.size, 1, none⟩ (.int .i64 q) (by simp; omega)
  refine hd_sole 7 (by kernel_rfl) (op_skip ((w2.setCell ⟨w.heap.size, 0, none⟩ (.int .i64 r)).setCell ⟨w.heap.size, 1, none⟩ (.int .i64 q)) rfl rfl (by simp [go_sem, k0, k1, f0, f1]) ⟨HSX.out _ O3, ?_⟩)
  simp only [List.getElem_toArray, List.getElem_cons_succ, List.getElem_cons_zero, Act.put, List.setIfInBounds_toArray, List.set_cons_zero, List.set_cons_succ]
  have O4 := ((O3.set_low ⟨w.heap.size + 1, 0, none⟩ (.int .i64 ((n + 2 : Nat) : Int)) (by simp; omega)).set_low ⟨w.heap.size + 1, 1, none⟩ (.int .i64 (lo : Int)) (by simp; omega)).set_low ⟨w.heap.size + 1, 2, none⟩ (.slice A2 m c2) (by simp; omega)
  have P4 := ((P3.set_low ⟨w.heap.size + 1, 0, none⟩ (.int .i64 ((n + 2 : Nat) : Int)) (by simp; omega)).set_low ⟨w.heap.size + 1, 1, none⟩ (.int .i64 (lo : Int)) (by simp; omega)).set_low ⟨w.heap.size + 1, 2, none⟩ (.slice A2 m c2) (by simp; omega)
  refine hd_sole 8 (by kernel_rfl) (op_skip ((((((w2.setCell ⟨w.heap.size, 0, none⟩ (.int .i64 r)).setCell ⟨w.heap.size, 1, none⟩ (.int .i64 q)).setCell ⟨w.heap.size + 1, 0, none⟩ (.int .i64 ((n + 2 : Nat) : Int))).setCell ⟨w.heap.size + 1, 1, none⟩ (.int .i64 (lo : Int)))).setCell ⟨w.heap.size + 1, 2, none⟩ (.slice A2 m c2)) rfl rfl (by simp [go_sem, prC, k2, k3, k4, f2, f3, f4]) ⟨HSX.out _ O4, ?_⟩)
  simp only [List.getElem_toArray, List.getElem_cons_succ, List.getElem_cons_zero, Act.put, List.setIfInBounds_toArray, List.set_cons_zero, List.set_cons_succ]
  refine hd_take 9 (_) rfl rfl (by kernel_rfl) (by kernel_rfl) (by kernel_rfl) (fun _ _ _ h => h) (fun w _ => by go_simp <;> rfl) (HSX.out _ O4) ?_
  simp only [List.getElem_toArray, List.getElem_cons_succ, List.getElem_cons_zero, Act.put, List.setIfInBounds_toArray, List.set_cons_zero, List.set_cons_succ]
  refine wpAnyH_done (by kernel_rfl) (NoPanic.normal ?_) _
  have BF := Lib.hid (((((((bel_on b0 D2).setCell (p := ⟨w.heap.size, 0, none⟩) (by simp) (.int .i64 r)).setCell (p := ⟨w.heap.size, 1, none⟩) (by simp) (.int .i64 q)).setCell (p := ⟨w.heap.size + 1, 0, none⟩) (by simp) (.int .i64 ((n + 2 : Nat) : Int))).setCell (p := ⟨w.heap.size + 1, 1, none⟩) (by simp) (.int .i64 (lo : Int))).setCell (p := ⟨w.heap.size + 1, 2, none⟩) (by simp) (.slice A2 m c2)))
  have PF := Lib.hid (P4.le_ (B' := w.heap.size) (by omega))
  clear hS O2 O3 O4 P2 P3 P4 ho2 hb2
  go_wp2_with fail
  refine bodyPost_ret (v := .tuple #[.agg #[.int .i64 r, .int .i64 q], .agg #[.int .i64 ((n + 2 : Nat) : Int), .int .i64 (lo : Int), .slice A2 m c2], .int .i64 0]) (by simp [results, Tryz.f57, go_sem, k0, k1, k2, k3, k4]) rfl ⟨⟨A2, c2, by rw [HS.out]; show _ = Ending.returned (.tuple #[.agg #[.int .i64 r, .int .i64 q], .agg #[.int .i64 ((n + 2 : Nat) : Int), .int .i64 (lo : Int), .slice A2 P.length c2], .int .i64 0]); rw [HM.out], by rw [HS.out]; exact PF.out⟩, BF.out⟩

theorem ProveOn_any (es : List Ent) (u : Int) (A : Option Addr) (c : Nat) (w : World) {n : Nat} (hn : es.length = n) (h : ER w A c es) :
    Calls Tryz.prog 57 #[.slice A n c, .int .i64 u] w fun e w' => OnEnd w.heap.size (onS es u).x (onS es u).a (onS es u).b (onS es u).P (onS es u).e e w' ∧ Below w.heap.size w w' := by
  cases hv : validL es with
  | false => exact proveOn_bad es u A c w hn h hv
  | true =>
    by_cases hu : u < 0 ∨ 64 ≤ u
    · exact proveOn_out es u A c w hn h hv hu
    · cases hh : hitE (endedE es) u with
      | false => exact proveOn_miss es u A c w hn h hv (by omega) (by omega) hh
      | true => exact proveOn_hit es u A c w hn h hv (by omega) (by omega) hh
theorem lowE_pos (es : List Ent) {u : Int} (h : 0 ≤ u) : 1 ≤ lowE (endedE es) u := by
  unfold lowE endedE
  rw [List.takeWhile_cons]
  simp only
  rw [if_pos (by simp; omega), List.length_cons]
  omega
theorem mem_tw {α : Type} {p : α → Bool} {x : α} : ∀ {l : List α}, x ∈ l.takeWhile p → p x = true
  | [], h => by simp at h
  | y :: l, h => by
    rw [List.takeWhile_cons] at h
    by_cases hy : p y = true
    · rw [if_pos hy] at h
      rcases List.mem_cons.1 h with rfl | h
      · exact hy
      · exact mem_tw h
    · rw [if_neg hy] at h
      cases h
theorem lowE_lt (es : List Ent) {u : Int} (h : u < 64) : lowE (endedE es) u < es.length + 2 := by
  apply Classical.byContradiction
  intro hc
  have hl := lowE_le (endedE es) u
  rw [endedE_length] at hl
  have he : (endedE es).takeWhile (fun x => decide (x.1 < u)) = endedE es := (List.takeWhile_sublist _).eq_of_length (by show lowE (endedE es) u = _; rw [endedE_length]; omega)
  have hm : ((64, 0) : Ent) ∈ endedE es := by simp [endedE]
  rw [← he] at hm
  have := mem_tw hm
  simp at this
  omega
end Go.Proofs.YtinpiodfpnbllaaGreatDoor

/- The proof that a receiver is not on a list: the program's. -/
namespace Go.Proofs.YtinpiodfpnbllaaGreatDoor
open Go.RowKit
set_option linter.unusedVariables false
set_option linter.unusedSimpArgs false

/-- What is returned: a proof of absence, an error. -/
structure OffV where
  lo : Ent
  hi : Ent
  a : Int
  b : Int
  P : List (List UInt8)
  a2 : Int
  b2 : Int
  P2 : List (List UInt8)
  e : Int
/-- The cells of a proof of absence. -/
def abC (v : OffV) (A : Option Addr) (n c : Nat) (A2 : Option Addr) (n2 c2 : Nat) : List Value := [.int .i64 v.lo.1, .int .i64 v.lo.2, .int .i64 v.hi.1, .int .i64 v.hi.2, .int .i64 v.a, .int .i64 v.b, .slice A n c, .int .i64 v.a2, .int .i64 v.b2, .slice A2 n2 c2]
def OffEnd (B : Nat) (v : OffV) (e : Ending) (w' : World) : Prop := ∃ A c A2 c2, e = .returned (.tuple #[.agg (abC v A v.P.length c A2 v.P2.length c2).toArray, .int .i64 v.e]) ∧ OK16 B w' A c v.P ∧ OK16 B w' A2 c2 v.P2
def offZ (e : Int) : OffV := ⟨(0, 0), (0, 0), 0, 0, [], 0, 0, [], e⟩
def offS (es : List Ent) (u : Int) : OffV := if validL es = false then offZ 90 else if u < 0 ∨ 64 ≤ u then offZ 2 else if hitE (endedE es) u = true then offZ 6 else ⟨(endedE es).getD (lowE (endedE es) u - 1) (0, 0), (endedE es).getD (lowE (endedE es) u) (0, 0), ((es.length + 2 : Nat) : Int), ((lowE (endedE es) u - 1 : Nat) : Int), pathS (leavesE es) (lowE (endedE es) u - 1), ((es.length + 2 : Nat) : Int), (lowE (endedE es) u : Int), pathS (leavesE es) (lowE (endedE es) u), 0⟩

set_option maxHeartbeats 4000000 in
set_option maxRecDepth 100000 in
theorem proveOff_bad (es : List Ent) (u : Int) (A : Option Addr) (c : Nat) (w : World) {n : Nat} (hn : es.length = n) (h : ER w A c es) (hv : validL es = false) :
    Calls Tryz.prog 58 #[.slice A n c, .int .i64 u] w fun e w' => OffEnd w.heap.size (offS es u) e w' ∧ Below w.heap.size w w' := by
  have HS : Hid (offS es u = offZ 90) := by
    unfold Hid offS
    rw [if_pos hv]
  have b0 := alloc_bel w (.cells #[.int .i64 0, .int .i64 0, .int .i64 0, .int .i64 0, .int .i64 0, .int .i64 0, .slice none 0 0, .int .i64 0, .int .i64 0, .slice none 0 0] 100)
  have HF : Hid (∀ W, Below w.heap.size w W → Calls Tryz.prog 119 #[.slice A n c, .int .i64 u] W fun e w' => e = .returned (.tuple #[.slice none 0 0, .slice none 0 0, .int .i64 0, .bool false, .int .i64 90]) ∧ Below W.heap.size W w') := fun W hW => find_bad es u A c W hn (h.below hW) hv
  clear hn h
  go_enter Tryz.func58, Tryz.ntmps58
  go_wp2_with (go_at_call 119; refine (HF.out _ b0).mono ?_; rintro e w1 ⟨rfl, hb1⟩; have b1 := Lib.hid (bel_on b0 hb1); have hz := hb1.size; obtain ⟨hc, hf⟩ := bcell hb1; clear hb1)
  have hlt : w.heap.size < w1.heap.size := by simp at hz; omega
  have g0 : w.heap.size < (w.alloc (.cells #[.int .i64 0, .int .i64 0, .int .i64 0, .int .i64 0, .int .i64 0, .int .i64 0, .slice none 0 0, .int .i64 0, .int .i64 0, .slice none 0 0] 100)).heap.size := by simp
  have k0 := (hc _ 0 g0).trans ((Blk.new w _ _).cell 0)
  have k1 := (hc _ 1 g0).trans ((Blk.new w _ _).cell 1)
  have k2 := (hc _ 2 g0).trans ((Blk.new w _ _).cell 2)
  have k3 := (hc _ 3 g0).trans ((Blk.new w _ _).cell 3)
  have k4 := (hc _ 4 g0).trans ((Blk.new w _ _).cell 4)
  have k5 := (hc _ 5 g0).trans ((Blk.new w _ _).cell 5)
  have k6 := (hc _ 6 g0).trans ((Blk.new w _ _).cell 6)
  have k7 := (hc _ 7 g0).trans ((Blk.new w _ _).cell 7)
  have k8 := (hc _ 8 g0).trans ((Blk.new w _ _).cell 8)
  have k9 := (hc _ 9 g0).trans ((Blk.new w _ _).cell 9)
  clear hc hf g0
  refine bodyPost_ret (v := .tuple #[.agg #[.int .i64 0, .int .i64 0, .int .i64 0, .int .i64 0, .int .i64 0, .int .i64 0, .slice none 0 0, .int .i64 0, .int .i64 0, .slice none 0 0], .int .i64 90]) (by simp [results, Tryz.f58, go_sem, k0, k1, k2, k3, k4, k5, k6, k7, k8, k9, hlt]) rfl ⟨⟨none, 0, none, 0, by rw [HS.out]; rfl, by rw [HS.out]; exact OK16.nil _ _, by rw [HS.out]; exact OK16.nil _ _⟩, ?_⟩
  exact ((((((((((b1.out.setCell (by simp) _).setCell (by simp) _).setCell (by simp) _).setCell (by simp) _).setCell (by simp) _).setCell (by simp) _).setCell (by simp) _).setCell (by simp) _).setCell (by simp) _).setCell (by simp) _)

set_option maxHeartbeats 4000000 in
set_option maxRecDepth 100000 in
theorem proveOff_out (es : List Ent) (u : Int) (A : Option Addr) (c : Nat) (w : World) {n : Nat} (hn : es.length = n) (h : ER w A c es) (hv : validL es = true) (hu : u < 0 ∨ 64 ≤ u) :
    Calls Tryz.prog 58 #[.slice A n c, .int .i64 u] w fun e w' => OffEnd w.heap.size (offS es u) e w' ∧ Below w.heap.size w w' := by
  have HS : Hid (offS es u = offZ 2) := by
    unfold Hid offS
    rw [if_neg (by rw [hv]; simp), if_pos hu]
  have b0 := alloc_bel w (.cells #[.int .i64 0, .int .i64 0, .int .i64 0, .int .i64 0, .int .i64 0, .int .i64 0, .slice none 0 0, .int .i64 0, .int .i64 0, .slice none 0 0] 100)
  have HF : Hid (∀ W, Below w.heap.size w W → Calls Tryz.prog 119 #[.slice A n c, .int .i64 u] W fun e w' => e = .returned (.tuple #[.slice none 0 0, .slice none 0 0, .int .i64 0, .bool false, .int .i64 2]) ∧ Below W.heap.size W w') := fun W hW => find_out es u A c W hn (h.below hW) hv hu
  clear hn h
  go_enter Tryz.func58, Tryz.ntmps58
  go_wp2_with (go_at_call 119; refine (HF.out _ b0).mono ?_; rintro e w1 ⟨rfl, hb1⟩; have b1 := Lib.hid (bel_on b0 hb1); have hz := hb1.size; obtain ⟨hc, hf⟩ := bcell hb1; clear hb1)
  have hlt : w.heap.size < w1.heap.size := by simp at hz; omega
  have g0 : w.heap.size < (w.alloc (.cells #[.int .i64 0, .int .i64 0, .int .i64 0, .int .i64 0, .int .i64 0, .int .i64 0, .slice none 0 0, .int .i64 0, .int .i64 0, .slice none 0 0] 100)).heap.size := by simp
  have k0 := (hc _ 0 g0).trans ((Blk.new w _ _).cell 0)
  have k1 := (hc _ 1 g0).trans ((Blk.new w _ _).cell 1)
  have k2 := (hc _ 2 g0).trans ((Blk.new w _ _).cell 2)
  have k3 := (hc _ 3 g0).trans ((Blk.new w _ _).cell 3)
  have k4 := (hc _ 4 g0).trans ((Blk.new w _ _).cell 4)
  have k5 := (hc _ 5 g0).trans ((Blk.new w _ _).cell 5)
  have k6 := (hc _ 6 g0).trans ((Blk.new w _ _).cell 6)
  have k7 := (hc _ 7 g0).trans ((Blk.new w _ _).cell 7)
  have k8 := (hc _ 8 g0).trans ((Blk.new w _ _).cell 8)
  have k9 := (hc _ 9 g0).trans ((Blk.new w _ _).cell 9)
  clear hc hf g0
  refine bodyPost_ret (v := .tuple #[.agg #[.int .i64 0, .int .i64 0, .int .i64 0, .int .i64 0, .int .i64 0, .int .i64 0, .slice none 0 0, .int .i64 0, .int .i64 0, .slice none 0 0], .int .i64 2]) (by simp [results, Tryz.f58, go_sem, k0, k1, k2, k3, k4, k5, k6, k7, k8, k9, hlt]) rfl ⟨⟨none, 0, none, 0, by rw [HS.out]; rfl, by rw [HS.out]; exact OK16.nil _ _, by rw [HS.out]; exact OK16.nil _ _⟩, ?_⟩
  exact ((((((((((b1.out.setCell (by simp) _).setCell (by simp) _).setCell (by simp) _).setCell (by simp) _).setCell (by simp) _).setCell (by simp) _).setCell (by simp) _).setCell (by simp) _).setCell (by simp) _).setCell (by simp) _)

set_option maxHeartbeats 4000000 in
set_option maxRecDepth 100000 in
theorem proveOff_there (es : List Ent) (u : Int) (A : Option Addr) (c : Nat) (w : World) {n : Nat} (hn : es.length = n) (h : ER w A c es) (hv : validL es = true) (h2 : 0 ≤ u) (h3 : u < 64) (hh : hitE (endedE es) u = true) :
    Calls Tryz.prog 58 #[.slice A n c, .int .i64 u] w fun e w' => OffEnd w.heap.size (offS es u) e w' ∧ Below w.heap.size w w' := by
  have HS : Hid (offS es u = offZ 6) := by
    unfold Hid offS
    rw [if_neg (by rw [hv]; simp), if_neg (by omega), if_pos hh]
  have b0 := alloc_bel w (.cells #[.int .i64 0, .int .i64 0, .int .i64 0, .int .i64 0, .int .i64 0, .int .i64 0, .slice none 0 0, .int .i64 0, .int .i64 0, .slice none 0 0] 100)
  have HL : Hid ((endedE es).length = n + 2) := by unfold Hid; rw [endedE_length, hn]
  have HF : Hid (∀ W, Below w.heap.size w W → Calls Tryz.prog 119 #[.slice A n c, .int .i64 u] W fun e w' => (∃ X x Y y, e = .returned (.tuple #[.slice X (n + 2) x, .slice Y (n + 2) y, .int .i64 (lowE (endedE es) u : Int), .bool true, .int .i64 0]) ∧ OE W.heap.size w' X x (endedE es) ∧ OK16 W.heap.size w' Y y (leavesE es)) ∧ Below W.heap.size W w') := fun W hW => by
    have := find_any es u A c W hn (h.below hW) hv h2 h3
    rw [hh] at this
    exact this
  clear hn h
  go_enter Tryz.func58, Tryz.ntmps58
  go_wp2_with (go_at_call 119; refine (HF.out _ b0).mono ?_; rintro e w1 ⟨⟨X, x, Y, y, rfl, -, -⟩, hb1⟩; have b1 := Lib.hid (bel_on b0 hb1); have hz := hb1.size; obtain ⟨hc, hf⟩ := bcell hb1; clear hb1)
  have hlt : w.heap.size < w1.heap.size := by simp at hz; omega
  have g0 : w.heap.size < (w.alloc (.cells #[.int .i64 0, .int .i64 0, .int .i64 0, .int .i64 0, .int .i64 0, .int .i64 0, .slice none 0 0, .int .i64 0, .int .i64 0, .slice none 0 0] 100)).heap.size := by simp
  have k0 := (hc _ 0 g0).trans ((Blk.new w _ _).cell 0)
  have k1 := (hc _ 1 g0).trans ((Blk.new w _ _).cell 1)
  have k2 := (hc _ 2 g0).trans ((Blk.new w _ _).cell 2)
  have k3 := (hc _ 3 g0).trans ((Blk.new w _ _).cell 3)
  have k4 := (hc _ 4 g0).trans ((Blk.new w _ _).cell 4)
  have k5 := (hc _ 5 g0).trans ((Blk.new w _ _).cell 5)
  have k6 := (hc _ 6 g0).trans ((Blk.new w _ _).cell 6)
  have k7 := (hc _ 7 g0).trans ((Blk.new w _ _).cell 7)
  have k8 := (hc _ 8 g0).trans ((Blk.new w _ _).cell 8)
  have k9 := (hc _ 9 g0).trans ((Blk.new w _ _).cell 9)
  clear hc hf g0
  refine bodyPost_ret (v := .tuple #[.agg #[.int .i64 0, .int .i64 0, .int .i64 0, .int .i64 0, .int .i64 0, .int .i64 0, .slice none 0 0, .int .i64 0, .int .i64 0, .slice none 0 0], .int .i64 6]) (by simp [results, Tryz.f58, go_sem, k0, k1, k2, k3, k4, k5, k6, k7, k8, k9, hlt]) rfl ⟨⟨none, 0, none, 0, by rw [HS.out]; rfl, by rw [HS.out]; exact OK16.nil _ _, by rw [HS.out]; exact OK16.nil _ _⟩, ?_⟩
  exact ((((((((((b1.out.setCell (by simp) _).setCell (by simp) _).setCell (by simp) _).setCell (by simp) _).setCell (by simp) _).setCell (by simp) _).setCell (by simp) _).setCell (by simp) _).setCell (by simp) _).setCell (by simp) _)

set_option maxHeartbeats 4000000 in
set_option maxRecDepth 100000 in
theorem proveOff_miss (es : List Ent) (u : Int) (A : Option Addr) (c : Nat) (w : World) {n : Nat} (hn : es.length = n) (h : ER w A c es) (hv : validL es = true) (h2 : 0 ≤ u) (h3 : u < 64) (hh : hitE (endedE es) u = false) :
    Calls Tryz.prog 58 #[.slice A n c, .int .i64 u] w fun e w' => OffEnd w.heap.size (offS es u) e w' ∧ Below w.heap.size w w' := by
  have hs : n ≤ 64 := by rw [← hn]; exact validL_length hv
  have hnb : (n : Int) ≤ 64 := by omega
  have HL : Hid ((endedE es).length = n + 2) := by unfold Hid; rw [endedE_length, hn]
  have HLL : Hid ((leavesE es).length = n + 2) := by unfold Hid; rw [leavesE_length, hn]
  have HA : Hid (All16 (leavesE es)) := leavesE_16 es
  have hlo : lowE (endedE es) u < n + 2 := by rw [← hn]; exact lowE_lt es h3
  have hlp : 1 ≤ lowE (endedE es) u := lowE_pos es h2
  obtain ⟨m, hm⟩ : ∃ m, lowE (endedE es) u - 1 = m := ⟨_, rfl⟩
  have HS : Hid (offS es u = ⟨(endedE es).getD m (0, 0), (endedE es).getD (lowE (endedE es) u) (0, 0), ((n + 2 : Nat) : Int), (m : Int), pathS (leavesE es) m, ((n + 2 : Nat) : Int), (lowE (endedE es) u : Int), pathS (leavesE es) (lowE (endedE es) u), 0⟩) := by
    unfold Hid offS
    rw [if_neg (by rw [hv]; simp), if_neg (by omega), if_neg (by rw [hh]; simp), hn, hm]
  have b0 := alloc_bel w (.cells #[.int .i64 0, .int .i64 0, .int .i64 0, .int .i64 0, .int .i64 0, .int .i64 0, .slice none 0 0, .int .i64 0, .int .i64 0, .slice none 0 0] 100)
  have HL : Hid ((endedE es).length = n + 2) := by unfold Hid; rw [endedE_length, hn]
  have HF : Hid (∀ W, Below w.heap.size w W → Calls Tryz.prog 119 #[.slice A n c, .int .i64 u] W fun e w' => (∃ X x Y y, e = .returned (.tuple #[.slice X (n + 2) x, .slice Y (n + 2) y, .int .i64 (lowE (endedE es) u : Int), .bool false, .int .i64 0]) ∧ OE W.heap.size w' X x (endedE es) ∧ OK16 W.heap.size w' Y y (leavesE es)) ∧ Below W.heap.size W w') := fun W hW => by
    have := find_any es u A c W hn (h.below hW) hv h2 h3
    rw [hh] at this
    exact this
  have HP1 : Hid (∀ Y y W, KR W Y y (leavesE es) → Calls Tryz.prog 78 #[.slice Y (n + 2) y, .int .i64 (m : Int)] W fun e w' => (∃ A' c', e = .returned (.agg (prC (n + 2 : Nat) (m : Nat) A' (pathS (leavesE es) (m)).length c').toArray) ∧ OK16 W.heap.size w' A' c' (pathS (leavesE es) (m))) ∧ Below W.heap.size W w') := fun Y y W hW => proof_any (leavesE es) (m) Y y W HLL.out (by omega) (by omega) hW
  have HP2 : Hid (∀ Y y W, KR W Y y (leavesE es) → Calls Tryz.prog 78 #[.slice Y (n + 2) y, .int .i64 (lowE (endedE es) u : Int)] W fun e w' => (∃ A' c', e = .returned (.agg (prC (n + 2 : Nat) (lowE (endedE es) u : Nat) A' (pathS (leavesE es) (lowE (endedE es) u)).length c').toArray) ∧ OK16 W.heap.size w' A' c' (pathS (leavesE es) (lowE (endedE es) u))) ∧ Below W.heap.size W w') := fun Y y W hW => proof_any (leavesE es) (lowE (endedE es) u) Y y W HLL.out hlo (by omega) hW
  generalize pathS (leavesE es) (lowE (endedE es) u) = R at HP2 HS
  generalize pathS (leavesE es) m = P at HP1 HS
  generalize lowE (endedE es) u = lo at *
  generalize endedE es = ds at *
  generalize leavesE es = ls at *
  have hml : m < ds.length := by rw [HL.out]; omega
  have hll : lo < ds.length := by rw [HL.out]; exact hlo
  have HG1 : Hid (ds.getD m (0, 0) = ds[m]) := by unfold Hid; rw [List.getD_eq_getElem?_getD, List.getElem?_eq_getElem hml]; rfl
  have HG2 : Hid (ds.getD lo (0, 0) = ds[lo]) := by unfold Hid; rw [List.getD_eq_getElem?_getD, List.getElem?_eq_getElem hll]; rfl
  rw [HG1.out, HG2.out] at HS
  obtain ⟨m1, hm1⟩ : ∃ m1, P.length = m1 := ⟨_, rfl⟩
  obtain ⟨m2, hm2⟩ : ∃ m2, R.length = m2 := ⟨_, rfl⟩
  rw [hm1] at HP1
  rw [hm2] at HP2
  have HM1 := Lib.hid hm1
  have HM2 := Lib.hid hm2
  have hli : (lo : Int) < (n : Int) + 2 := by omega
  have hmi : (m : Int) < (n : Int) + 2 := by omega
  have e1 : IntKind.i64.wrap ((lo : Int) - 1) = (m : Int) := by rw [IntKind.wrap_i64]; omega
  clear hn h hv h2 h3 hm hm1 hm2 hh
  go_enter Tryz.func58, Tryz.ntmps58
  go_wp2_with (go_at_call 119; refine (HF.out _ b0).mono ?_; rintro e w1 ⟨⟨X, x, Y, y, rfl, ho1, hk1⟩, hb1⟩; have O1 := Lib.hid ho1; have K1 := Lib.hid hk1; have B1 := Lib.hid hb1; clear ho1 hk1 hb1)
  have b1 := bel_on b0 B1.out
  obtain ⟨W0, hW0⟩ : ∃ W : World, W = w.alloc (.cells #[.int .i64 0, .int .i64 0, .int .i64 0, .int .i64 0, .int .i64 0, .int .i64 0, .slice none 0 0, .int .i64 0, .int .i64 0, .slice none 0 0] 100) := ⟨_, rfl⟩
  have Q0 : Blk W0 w.heap.size 100 #[.int .i64 0, .int .i64 0, .int .i64 0, .int .i64 0, .int .i64 0, .int .i64 0, .slice none 0 0, .int .i64 0, .int .i64 0, .slice none 0 0] := by rw [hW0]; exact Blk.new _ _ _
  have hz0 : W0.heap.size = w.heap.size + 1 := by rw [hW0]; simp
  rw [← hW0] at b0 O1 K1 B1
  clear hW0
  have BD := Lib.hid (show Below W0.heap.size W0 w1.drew from B1.out.drew)
  have hb : ∃ b off, X = some ⟨b, off, none⟩ := by obtain ⟨b, off, e, _⟩ := (O1.out.er (by rw [HL.out]; omega)).at_ hll; exact ⟨b, off, e⟩
  obtain ⟨b, off, rfl⟩ := hb
  have HSX : Hid (∀ W, OE W0.heap.size W (some ⟨b, off, none⟩) x ds → (W.cell? ⟨b, off + m * 2, none⟩ = some (.int .i64 ds[m].1) ∧ W.cell? ⟨b, off + m * 2 + 1, none⟩ = some (.int .i64 ds[m].2)) ∧ (W.cell? ⟨b, off + lo * 2, none⟩ = some (.int .i64 ds[lo].1) ∧ W.cell? ⟨b, off + lo * 2 + 1, none⟩ = some (.int .i64 ds[lo].2))) := fun W hW => by
    obtain ⟨b', off', e, _, c0, c1⟩ := (hW.er (by rw [HL.out]; omega)).at_ hml
    obtain ⟨b2, off2, e2, _, c2, c3⟩ := (hW.er (by rw [HL.out]; omega)).at_ hll
    injection e with e
    injection e with e3 e4
    subst e3 e4
    injection e2 with e2
    injection e2 with e5 e6
    subst e5 e6
    exact ⟨⟨c0, c1⟩, c2, c3⟩
  obtain ⟨X0, hX0⟩ : ∃ X0, ds[m] = X0 := ⟨_, rfl⟩
  obtain ⟨X1, hX1⟩ : ∃ X1, ds[lo] = X1 := ⟨_, rfl⟩
  rw [hX0, hX1] at HSX HS
  obtain ⟨r0, q0⟩ := X0
  obtain ⟨r1, q1⟩ := X1
  simp only at HSX
  have O1d := Lib.hid (show OE W0.heap.size w1.drew (some ⟨b, off, none⟩) x ds from O1.out.below (Below.refl _ _).drew)
  have K1d := Lib.hid (show OK16 W0.heap.size w1.drew Y y ls from K1.out.below (Below.refl _ _).drew)
  clear hX0 hX1 hll hml HG1 HG2
  refine wp_region_noPanic ?_
  refine wp_region_held_drew (S := fun w' => (w'.cell? ⟨b, off + m * 2, none⟩ = some (.int .i64 r0) ∧ w'.cell? ⟨b, off + m * 2 + 1, none⟩ = some (.int .i64 q0)) ∧ (w'.cell? ⟨b, off + lo * 2, none⟩ = some (.int .i64 r1) ∧ w'.cell? ⟨b, off + lo * 2 + 1, none⟩ = some (.int .i64 q1))) (by kernel_rfl) (HSX.out _ O1d.out) (fun hS => ?_)
  refine hd_take 0 (_) rfl rfl (by kernel_rfl) (by kernel_rfl) (by kernel_rfl) (fun _ _ _ h => h) (fun w _ => by go_simp <;> rfl) hS ?_
  refine hd_take 1 (_) rfl rfl (by kernel_rfl) (by kernel_rfl) (by kernel_rfl) (fun _ _ _ h => h) (fun w _ => by go_simp <;> rfl) hS ?_
  refine hd_take 5 (_) rfl rfl (by kernel_rfl) (by kernel_rfl) (by kernel_rfl) (fun _ _ _ h => h) (fun w _ => by go_simp <;> rfl) hS ?_
  refine hd_take 6 (_) rfl rfl (by kernel_rfl) (by kernel_rfl) (by kernel_rfl) (fun _ _ _ h => h) (fun w _ => by go_simp <;> rfl) hS ?_
  refine hd_take 9 (_) rfl rfl (by kernel_rfl) (by kernel_rfl) (by kernel_rfl) (fun _ _ _ h => h) (fun w _ => by go_simp <;> rfl) hS ?_
  refine hd_take 10 (_) rfl rfl (by kernel_rfl) (by kernel_rfl) (by kernel_rfl) (fun _ _ _ h => h) (fun w _ => by go_simp <;> rfl) hS ?_
  refine hd_take 13 (_) rfl rfl (by kernel_rfl) (by kernel_rfl) (by kernel_rfl) (fun _ _ _ h => h) (fun w _ => by go_simp <;> rfl) hS ?_
  refine hd_take 14 (_) rfl rfl (by kernel_rfl) (by kernel_rfl) (by kernel_rfl) (fun _ _ _ h => h) (fun w _ => by go_simp <;> rfl) hS ?_
  simp only [List.getElem_toArray, List.getElem_cons_succ, List.getElem_cons_zero, Act.put, List.setIfInBounds_toArray, List.set_cons_zero, List.set_cons_succ]
  refine hd_take 2 (.int .i64 (m : Int)) rfl rfl (by kernel_rfl) (by kernel_rfl) (by kernel_rfl) (fun _ _ _ h => h) (fun w _ => by simp [go_sem, e1]) hS ?_
  refine hd_take 7 (_) rfl rfl (by kernel_rfl) (by kernel_rfl) (by kernel_rfl) (fun _ _ _ h => h) (fun w _ => by go_simp <;> rfl) hS ?_
  refine hd_take 11 (.int .i64 (m : Int)) rfl rfl (by kernel_rfl) (by kernel_rfl) (by kernel_rfl) (fun _ _ _ h => h) (fun w _ => by simp [go_sem, e1]) hS ?_
  simp only [List.getElem_toArray, List.getElem_cons_succ, List.getElem_cons_zero, Act.put, List.setIfInBounds_toArray, List.set_cons_zero, List.set_cons_succ]
  refine hd_take 3 (_) rfl rfl (by kernel_rfl) (by kernel_rfl) (by kernel_rfl) (fun _ _ _ h => h) (fun w _ => by go_simp <;> rfl) hS ?_
  refine hd_take 8 (.agg #[.int .i64 r1, .int .i64 q1]) rfl rfl (by kernel_rfl) (by kernel_rfl) (by kernel_rfl) (fun _ _ _ h => h) (fun w h => by have hx := h.2.1; have hy := h.2.2; simp [go_sem, hx, hy]) hS ?_
  simp only [List.getElem_toArray, List.getElem_cons_succ, List.getElem_cons_zero, Act.put, List.setIfInBounds_toArray, List.set_cons_zero, List.set_cons_succ]
  refine hd_take 4 (.agg #[.int .i64 r0, .int .i64 q0]) rfl rfl (by kernel_rfl) (by kernel_rfl) (by kernel_rfl) (fun _ _ _ h => h) (fun w h => by have hx := h.1.1; have hy := h.1.2; simp [go_sem, hx, hy]) hS ?_
  simp only [List.getElem_toArray, List.getElem_cons_succ, List.getElem_cons_zero, Act.put, List.setIfInBounds_toArray, List.set_cons_zero, List.set_cons_succ]
  refine hd_calls 12 78 #[.slice Y (n + 2) y, .int .i64 (m : Int)] rfl rfl (by kernel_rfl) (by go_simp <;> rfl) ?_
  refine (HP1.out _ _ _ (K1d.out.kr (fun k hk => HA.out k hk) (by rw [HLL.out]; omega))).mono ?_
  rintro e w2 ⟨⟨A2, c2, rfl, ho2⟩, hb2⟩
  have D2 := bel_on BD.out hb2
  have O2 := O1d.out.below hb2
  have K2 := K1d.out.below hb2
  have P2 : OK16 W0.heap.size w2 A2 c2 P := ho2.le_ BD.out.size
  refine ⟨_, rfl, HSX.out _ O2, ?_⟩
  simp only [List.getElem_toArray, List.getElem_cons_succ, List.getElem_cons_zero, Act.put, List.setIfInBounds_toArray, List.set_cons_zero, List.set_cons_succ]
  refine hd_calls 15 78 #[.slice Y (n + 2) y, .int .i64 (lo : Int)] rfl rfl (by kernel_rfl) (by go_simp <;> rfl) ?_
  refine (HP2.out _ _ _ (K2.kr (fun k hk => HA.out k hk) (by rw [HLL.out]; omega))).mono ?_
  rintro e w3 ⟨⟨A3, c3, rfl, ho3⟩, hb3⟩
  have D3 := bel_on D2 hb3
  have O3 := O2.below hb3
  have P3 := P2.below hb3
  have R3 : OK16 W0.heap.size w3 A3 c3 R := ho3.le_ D2.size
  refine ⟨_, rfl, HSX.out _ O3, ?_⟩
  simp only [List.getElem_toArray, List.getElem_cons_succ, List.getElem_cons_zero, Act.put, List.setIfInBounds_toArray, List.set_cons_zero, List.set_cons_succ]
  refine hd_take 16 (.agg #[.int .i64 r0, .int .i64 q0, .int .i64 r1, .int .i64 q1, .int .i64 ((n + 2 : Nat) : Int), .int .i64 (m : Int), .slice A2 m1 c2, .int .i64 ((n + 2 : Nat) : Int), .int .i64 (lo : Int), .slice A3 m2 c3]) rfl rfl (by kernel_rfl) (by kernel_rfl) (by kernel_rfl) (fun _ _ _ h => h) (fun w _ => by simp [go_sem, prC]) (HSX.out _ O3) ?_
  simp only [List.getElem_toArray, List.getElem_cons_succ, List.getElem_cons_zero, Act.put, List.setIfInBounds_toArray, List.set_cons_zero, List.set_cons_succ]
  have k0 := (Q0.below' D3).cell 0
  have f0 := (Q0.below' D3).frozen 0
  have k1 := (Q0.below' D3).cell 1
  have f1 := (Q0.below' D3).frozen 1
  have k2 := (Q0.below' D3).cell 2
  have f2 := (Q0.below' D3).frozen 2
  have k3 := (Q0.below' D3).cell 3
  have f3 := (Q0.below' D3).frozen 3
  have k4 := (Q0.below' D3).cell 4
  have f4 := (Q0.below' D3).frozen 4
  have k5 := (Q0.below' D3).cell 5
  have f5 := (Q0.below' D3).frozen 5
  have k6 := (Q0.below' D3).cell 6
  have f6 := (Q0.below' D3).frozen 6
  have k7 := (Q0.below' D3).cell 7
  have f7 := (Q0.below' D3).frozen 7
  have k8 := (Q0.below' D3).cell 8
  have f8 := (Q0.below' D3).frozen 8
  have k9 := (Q0.below' D3).cell 9
  have f9 := (Q0.below' D3).frozen 9
  have O4 := ((((((((((O3).set_low ⟨w.heap.size, 0, none⟩ (.int .i64 r0) (by simp; omega)).set_low ⟨w.heap.size, 1, none⟩ (.int .i64 q0) (by simp; omega)).set_low ⟨w.heap.size, 2, none⟩ (.int .i64 r1) (by simp; omega)).set_low ⟨w.heap.size, 3, none⟩ (.int .i64 q1) (by simp; omega)).set_low ⟨w.heap.size, 4, none⟩ (.int .i64 ((n + 2 : Nat) : Int)) (by simp; omega)).set_low ⟨w.heap.size, 5, none⟩ (.int .i64 (m : Int)) (by simp; omega)).set_low ⟨w.heap.size, 6, none⟩ (.slice A2 m1 c2) (by simp; omega)).set_low ⟨w.heap.size, 7, none⟩ (.int .i64 ((n + 2 : Nat) : Int)) (by simp; omega)).set_low ⟨w.heap.size, 8, none⟩ (.int .i64 (lo : Int)) (by simp; omega)).set_low ⟨w.heap.size, 9, none⟩ (.slice A3 m2 c3) (by simp; omega)
  have P4 := ((((((((((P3).set_low ⟨w.heap.size, 0, none⟩ (.int .i64 r0) (by simp; omega)).set_low ⟨w.heap.size, 1, none⟩ (.int .i64 q0) (by simp; omega)).set_low ⟨w.heap.size, 2, none⟩ (.int .i64 r1) (by simp; omega)).set_low ⟨w.heap.size, 3, none⟩ (.int .i64 q1) (by simp; omega)).set_low ⟨w.heap.size, 4, none⟩ (.int .i64 ((n + 2 : Nat) : Int)) (by simp; omega)).set_low ⟨w.heap.size, 5, none⟩ (.int .i64 (m : Int)) (by simp; omega)).set_low ⟨w.heap.size, 6, none⟩ (.slice A2 m1 c2) (by simp; omega)).set_low ⟨w.heap.size, 7, none⟩ (.int .i64 ((n + 2 : Nat) : Int)) (by simp; omega)).set_low ⟨w.heap.size, 8, none⟩ (.int .i64 (lo : Int)) (by simp; omega)).set_low ⟨w.heap.size, 9, none⟩ (.slice A3 m2 c3) (by simp; omega)
  have R4 := ((((((((((R3).set_low ⟨w.heap.size, 0, none⟩ (.int .i64 r0) (by simp; omega)).set_low ⟨w.heap.size, 1, none⟩ (.int .i64 q0) (by simp; omega)).set_low ⟨w.heap.size, 2, none⟩ (.int .i64 r1) (by simp; omega)).set_low ⟨w.heap.size, 3, none⟩ (.int .i64 q1) (by simp; omega)).set_low ⟨w.heap.size, 4, none⟩ (.int .i64 ((n + 2 : Nat) : Int)) (by simp; omega)).set_low ⟨w.heap.size, 5, none⟩ (.int .i64 (m : Int)) (by simp; omega)).set_low ⟨w.heap.size, 6, none⟩ (.slice A2 m1 c2) (by simp; omega)).set_low ⟨w.heap.size, 7, none⟩ (.int .i64 ((n + 2 : Nat) : Int)) (by simp; omega)).set_low ⟨w.heap.size, 8, none⟩ (.int .i64 (lo : Int)) (by simp; omega)).set_low ⟨w.heap.size, 9, none⟩ (.slice A3 m2 c3) (by simp; omega)
  refine hd_sole 17 (by kernel_rfl) (op_skip (((((((((((w3).setCell ⟨w.heap.size, 0, none⟩ (.int .i64 r0)).setCell ⟨w.heap.size, 1, none⟩ (.int .i64 q0)).setCell ⟨w.heap.size, 2, none⟩ (.int .i64 r1)).setCell ⟨w.heap.size, 3, none⟩ (.int .i64 q1)).setCell ⟨w.heap.size, 4, none⟩ (.int .i64 ((n + 2 : Nat) : Int))).setCell ⟨w.heap.size, 5, none⟩ (.int .i64 (m : Int))).setCell ⟨w.heap.size, 6, none⟩ (.slice A2 m1 c2)).setCell ⟨w.heap.size, 7, none⟩ (.int .i64 ((n + 2 : Nat) : Int))).setCell ⟨w.heap.size, 8, none⟩ (.int .i64 (lo : Int))).setCell ⟨w.heap.size, 9, none⟩ (.slice A3 m2 c3)) rfl rfl (by simp [go_sem, k0, k1, k2, k3, k4, k5, k6, k7, k8, k9, f0, f1, f2, f3, f4, f5, f6, f7, f8, f9]) ⟨HSX.out _ O4, ?_⟩)
  simp only [List.getElem_toArray, List.getElem_cons_succ, List.getElem_cons_zero, Act.put, List.setIfInBounds_toArray, List.set_cons_zero, List.set_cons_succ]
  refine hd_take 18 (_) rfl rfl (by kernel_rfl) (by kernel_rfl) (by kernel_rfl) (fun _ _ _ h => h) (fun w _ => by go_simp <;> rfl) (HSX.out _ O4) ?_
  simp only [List.getElem_toArray, List.getElem_cons_succ, List.getElem_cons_zero, Act.put, List.setIfInBounds_toArray, List.set_cons_zero, List.set_cons_succ]
  refine wpAnyH_done (by kernel_rfl) (NoPanic.normal ?_) _
  have BF := Lib.hid (((((((((((bel_on b0 D3).setCell (p := ⟨w.heap.size, 0, none⟩) (by simp) (.int .i64 r0)).setCell (p := ⟨w.heap.size, 1, none⟩) (by simp) (.int .i64 q0)).setCell (p := ⟨w.heap.size, 2, none⟩) (by simp) (.int .i64 r1)).setCell (p := ⟨w.heap.size, 3, none⟩) (by simp) (.int .i64 q1)).setCell (p := ⟨w.heap.size, 4, none⟩) (by simp) (.int .i64 ((n + 2 : Nat) : Int))).setCell (p := ⟨w.heap.size, 5, none⟩) (by simp) (.int .i64 (m : Int))).setCell (p := ⟨w.heap.size, 6, none⟩) (by simp) (.slice A2 m1 c2)).setCell (p := ⟨w.heap.size, 7, none⟩) (by simp) (.int .i64 ((n + 2 : Nat) : Int))).setCell (p := ⟨w.heap.size, 8, none⟩) (by simp) (.int .i64 (lo : Int))).setCell (p := ⟨w.heap.size, 9, none⟩) (by simp) (.slice A3 m2 c3))
  have PF := Lib.hid (P4.le_ (B' := w.heap.size) (by omega))
  have RF := Lib.hid (R4.le_ (B' := w.heap.size) (by omega))
  clear hS O2 O3 O4 P2 P3 P4 R3 R4 K2 ho2 hb2 ho3 hb3
  go_wp2_with fail
  refine bodyPost_ret (v := .tuple #[.agg #[.int .i64 r0, .int .i64 q0, .int .i64 r1, .int .i64 q1, .int .i64 ((n + 2 : Nat) : Int), .int .i64 (m : Int), .slice A2 m1 c2, .int .i64 ((n + 2 : Nat) : Int), .int .i64 (lo : Int), .slice A3 m2 c3], .int .i64 0]) (by simp [results, Tryz.f58, go_sem, k0, k1, k2, k3, k4, k5, k6, k7, k8, k9]) rfl ⟨⟨A2, c2, A3, c3, ?_, by rw [HS.out]; exact PF.out, by rw [HS.out]; exact RF.out⟩, BF.out⟩
  rw [HS.out]
  simp only [abC, HM1.out, HM2.out]

theorem ProveOff_any (es : List Ent) (u : Int) (A : Option Addr) (c : Nat) (w : World) {n : Nat} (hn : es.length = n) (h : ER w A c es) :
    Calls Tryz.prog 58 #[.slice A n c, .int .i64 u] w fun e w' => OffEnd w.heap.size (offS es u) e w' ∧ Below w.heap.size w w' := by
  cases hv : validL es with
  | false => exact proveOff_bad es u A c w hn h hv
  | true =>
    by_cases hu : u < 0 ∨ 64 ≤ u
    · exact proveOff_out es u A c w hn h hv hu
    · cases hh : hitE (endedE es) u with
      | false => exact proveOff_miss es u A c w hn h hv (by omega) (by omega) hh
      | true => exact proveOff_there es u A c w hn h hv (by omega) (by omega) hh
end Go.Proofs.YtinpiodfpnbllaaGreatDoor

/- ListRoot and Leaf: the program's. -/
namespace Go.Proofs.YtinpiodfpnbllaaGreatDoor
open Go.RowKit
set_option linter.unusedVariables false
set_option linter.unusedSimpArgs false

attribute [local go_sem] run_storeCells_key run_storeCells_new

/-- The root of a revocation list, and the error. -/
def lrS (l : List Ent) : List UInt8 × Int := if validL l = false then (zeroK, 90) else (rootS (leavesE l), 0)
/-- The leaf of an entry, and the error. -/
def lfS (x : Ent) : List UInt8 × Int := if isE x = true then (leafE x, 0) else (zeroK, 2)

end Go.Proofs.YtinpiodfpnbllaaGreatDoor

/- On a list or not: what the two proofs hold, in plain words. -/
namespace Go.Proofs.YtinpiodfpnbllaaGreatDoor
set_option linter.unusedVariables false
set_option linter.unusedSimpArgs false

end Go.Proofs.YtinpiodfpnbllaaGreatDoor

/- Whether a proof of absence is accepted: the program's. -/
namespace Go.Proofs.YtinpiodfpnbllaaGreatDoor
open Go.RowKit
set_option linter.unusedVariables false
set_option linter.unusedSimpArgs false
attribute [local go_sem] run_storeCells_key run_storeCells_new equalIn_keys

end Go.Proofs.YtinpiodfpnbllaaGreatDoor
