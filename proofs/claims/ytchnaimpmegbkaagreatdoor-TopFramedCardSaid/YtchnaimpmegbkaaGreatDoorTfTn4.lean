/-
  Lemmas and contracts, joined.
-/
import Derived.Test.YtchnaimpmegbkaaGreatDoorTfTn3
set_option linter.unusedSimpArgs false
set_option linter.unusedVariables false
set_option linter.unnecessarySimpa false
/- The exported functions on natural numbers, the program's and the reference's: each returns what one plain function says. -/
namespace Go.Proofs.YtchnaimpmegbkaaGreatDoor
open Go.RowKit
set_option linter.unusedVariables false

/-- Both numbers are valid. -/
def bothB (a b : List Nat) : Bool := validB a && validB b
def limS (n : Nat) : List Nat × Int := if (digs n).length ≤ 16 then (digs n, 0) else ([], 4)
def addS (a b : List Nat) : List Nat × Int := if bothB a b = true then limS (val a + val b) else ([], 8)
def mulS (a b : List Nat) : List Nat × Int := if bothB a b = true then limS (val a * val b) else ([], 8)
def divS (a b : List Nat) : List Nat × List Nat × Int := if bothB a b = true then (if b = [] then ([], [], 10) else (digs (val a / val b), digs (val a % val b), 0)) else ([], [], 8)
def cmpS (a b : List Nat) : Int × Int := if bothB a b = true then (cmpN (val a) (val b), 0) else (0, 8)
/-- A number in new memory and an error. -/
def Num2 (w w' : World) (e : Ending) (r : List Nat × Int) : Prop :=
  ∃ A c, e = .returned (.tuple #[.slice A r.1.length c, .int .i64 r.2]) ∧ NF w.heap.size w' A c r.1 ∧ Below w.heap.size w w'
theorem Num2.no {w w' : World} {r : List Nat × Int} {x : Int} (h : r = ([], x)) (hb : Below w.heap.size w w') : Num2 w w' (.returned (.tuple #[.slice none 0 0, .int .i64 x])) r := by
  subst h
  exact ⟨none, 0, rfl, NF.nil _ _, hb⟩
theorem Num2.yes {w w' : World} {r : List Nat × Int} {l : List Nat} {x : Int} {A : Option Addr} {c n : Nat} (h : r = (l, x)) (hn : l.length = n) (hf : NF w.heap.size w' A c l) (hb : Below w.heap.size w w') : Num2 w w' (.returned (.tuple #[.slice A n c, .int .i64 x])) r := by
  subst h hn
  exact ⟨A, c, rfl, hf, hb⟩
/-- Two numbers in new memory and an error. -/
def Num3 (w w' : World) (e : Ending) (r : List Nat × List Nat × Int) : Prop :=
  ∃ A c B d, e = .returned (.tuple #[.slice A r.1.length c, .slice B r.2.1.length d, .int .i64 r.2.2]) ∧ NF w.heap.size w' A c r.1 ∧ NF w.heap.size w' B d r.2.1 ∧ Apart A r.1 B r.2.1 ∧ Below w.heap.size w w'
theorem Num3.no {w w' : World} {r : List Nat × List Nat × Int} {x : Int} (h : r = ([], [], x)) (hb : Below w.heap.size w w') : Num3 w w' (.returned (.tuple #[.slice none 0 0, .slice none 0 0, .int .i64 x])) r := by
  subst h
  exact ⟨none, 0, none, 0, rfl, NF.nil _ _, NF.nil _ _, fun h => absurd rfl h, hb⟩
theorem Num3.yes {w w' : World} {r : List Nat × List Nat × Int} {l m : List Nat} {x : Int} {A B : Option Addr} {c d n k : Nat} (h : r = (l, m, x)) (hn : l.length = n) (hk : m.length = k) (hf : NF w.heap.size w' A c l) (hg : NF w.heap.size w' B d m) (ha : Apart A l B m) (hb : Below w.heap.size w w') :
    Num3 w w' (.returned (.tuple #[.slice A n c, .slice B k d, .int .i64 x])) r := by
  subst h hn hk
  exact ⟨A, c, B, d, rfl, hf, hg, ha, hb⟩
def Int2 (w w' : World) (e : Ending) (r : Int × Int) : Prop := e = .returned (.tuple #[.int .i64 r.1, .int .i64 r.2]) ∧ Below w.heap.size w w'
theorem Int2.mk' {w w' : World} {r : Int × Int} {x y : Int} (h : r = (x, y)) (hb : Below w.heap.size w w') : Int2 w w' (.returned (.tuple #[.int .i64 x, .int .i64 y])) r := by
  subst h
  exact ⟨rfl, hb⟩

theorem limS_yes {n : Nat} (h : (digs n).length ≤ 16) : limS n = (digs n, 0) := by rw [limS, if_pos h]
theorem limS_no {n : Nat} (h : ¬ (digs n).length ≤ 16) : limS n = ([], 4) := by rw [limS, if_neg h]
theorem bothB_ways (a b : List Nat) : (validB a = false ∧ bothB a b = false) ∨ (validB a = true ∧ validB b = false ∧ bothB a b = false) ∨ (validB a = true ∧ validB b = true ∧ bothB a b = true) := by
  unfold bothB
  cases h : validB a
  · exact .inl ⟨rfl, rfl⟩
  · cases h2 : validB b
    · exact .inr (.inl ⟨rfl, rfl, rfl⟩)
    · exact .inr (.inr ⟨rfl, rfl, rfl⟩)
theorem alloc_below (w : World) (o : Obj) : Below w.heap.size w (w.alloc o) := (Below.refl _ _).alloc (Nat.le_refl _) o

set_option maxHeartbeats 1000000 in
theorem Add_any (A : Option Addr) (ca : Nat) (a : List Nat) (Bd : Option Addr) (cb : Nat) (b : List Nat) (w : World) {na nb : Nat} (hna : a.length = na) (hnb : b.length = nb) (ha : NR w A ca a) (hb : NR w Bd cb b) :
    Calls Tryz.prog 52 #[.slice A na ca, .slice Bd nb cb] w fun e w' => Num2 w w' e (addS a b) := by
  have Ha := Lib.hid hna
  have Hb := Lib.hid hnb
  have Ra := Lib.hid ha
  have Rb := Lib.hid hb
  rcases bothB_ways a b with ⟨h1, h3⟩ | ⟨h1, h2, h3⟩ | ⟨h1, h2, h3⟩
  · have H1 := Lib.hid h1
    have H3 := Lib.hid h3
    have HS : Hid (addS a b = ([], 8)) := by unfold Hid addS; rw [h3]; rfl
    clear hna hnb ha hb h1 h3
    go_enter Tryz.func52, Tryz.ntmps52
    go_wp2_with fail
    refine (valid_two A ca a Bd cb b w Ha.out Hb.out Ra.out Rb.out _).mono ?_
    rintro e w1 ⟨rfl, rfl⟩
    rw [show (validB a && validB b) = false from H3.out]
    go_wp2_with fail
    go_ret2
    exact Num2.no HS.out (alloc_below _ _)
  · have H1 := Lib.hid h1
    have H2 := Lib.hid h2
    have H3 := Lib.hid h3
    have HS : Hid (addS a b = ([], 8)) := by unfold Hid addS; rw [h3]; rfl
    clear hna hnb ha hb h1 h3 h2
    go_enter Tryz.func52, Tryz.ntmps52
    go_wp2_with fail
    refine (valid_two A ca a Bd cb b w Ha.out Hb.out Ra.out Rb.out _).mono ?_
    rintro e w1 ⟨rfl, rfl⟩
    rw [show (validB a && validB b) = false from H3.out]
    go_wp2_with fail
    go_ret2
    exact Num2.no HS.out (alloc_below _ _)
  · have H1 := Lib.hid h1
    have H2 := Lib.hid h2
    have H3 := Lib.hid h3
    obtain ⟨v1, v2⟩ := validB_iff.1 h1
    obtain ⟨v3, v4⟩ := validB_iff.1 h2
    have L1 : na ≤ 16 := by omega
    have L2 : nb ≤ 16 := by omega
    have T1 := Lib.hid v2
    have T2 := Lib.hid v4
    have HS : Hid (addS a b = limS (val a + val b)) := by unfold Hid addS; rw [h3]; rfl
    clear hna hnb ha hb h1 h2 h3 v1 v2 v3 v4
    go_enter Tryz.func52, Tryz.ntmps52
    go_wp2_with fail
    refine (valid_two A ca a Bd cb b w Ha.out Hb.out Ra.out Rb.out _).mono ?_
    rintro e w1 ⟨rfl, rfl⟩
    rw [show (validB a && validB b) = true from H3.out]
    obtain ⟨W, hW⟩ : ∃ W : World, W = w.alloc (.cells #[.slice A na ca, .slice Bd nb cb] 25) := ⟨_, rfl⟩
    have bW : Below w.heap.size w W := by rw [hW]; exact alloc_below _ _
    rw [← hW]
    clear hW
    have Ra2 := Lib.hid (Ra.out.below bW)
    have Rb2 := Lib.hid (Rb.out.below bW)
    go_wp2_with fail
    refine (plus_any A ca a Bd cb b _ Ha.out Hb.out Ra2.out Rb2.out (by omega) (by omega)).mono ?_
    rintro e w2 ⟨X, cx, rfl, hx, hb2⟩
    go_wp2_with fail
    refine (limited_any _ _ _ _).mono ?_
    rintro e w3 ⟨rfl, rfl⟩
    by_cases h16 : (digs (val a + val b)).length ≤ 16
    · rw [limV_yes h16]
      have HL := Lib.hid (limS_yes h16)
      clear h16
      go_wp2_with fail
      go_ret2
      exact Num2.yes (HS.out.trans HL.out) rfl (hx.mono bW.size) (bW.trans (hb2.mono bW.size))
    · rw [limV_no (by omega)]
      have HL := Lib.hid (limS_no h16)
      clear h16
      go_wp2_with fail
      go_ret2
      exact Num2.no (HS.out.trans HL.out) (bW.trans (hb2.mono bW.size))

set_option maxHeartbeats 1000000 in
theorem Mul_any (A : Option Addr) (ca : Nat) (a : List Nat) (Bd : Option Addr) (cb : Nat) (b : List Nat) (w : World) {na nb : Nat} (hna : a.length = na) (hnb : b.length = nb) (ha : NR w A ca a) (hb : NR w Bd cb b) :
    Calls Tryz.prog 83 #[.slice A na ca, .slice Bd nb cb] w fun e w' => Num2 w w' e (mulS a b) := by
  have Ha := Lib.hid hna
  have Hb := Lib.hid hnb
  have Ra := Lib.hid ha
  have Rb := Lib.hid hb
  rcases bothB_ways a b with ⟨h1, h3⟩ | ⟨h1, h2, h3⟩ | ⟨h1, h2, h3⟩
  · have H1 := Lib.hid h1
    have H3 := Lib.hid h3
    have HS : Hid (mulS a b = ([], 8)) := by unfold Hid mulS; rw [h3]; rfl
    clear hna hnb ha hb h1 h3
    go_enter Tryz.func83, Tryz.ntmps83
    go_wp2_with fail
    refine (valid_two A ca a Bd cb b w Ha.out Hb.out Ra.out Rb.out _).mono ?_
    rintro e w1 ⟨rfl, rfl⟩
    rw [show (validB a && validB b) = false from H3.out]
    go_wp2_with fail
    go_ret2
    exact Num2.no HS.out (alloc_below _ _)
  · have H1 := Lib.hid h1
    have H2 := Lib.hid h2
    have H3 := Lib.hid h3
    have HS : Hid (mulS a b = ([], 8)) := by unfold Hid mulS; rw [h3]; rfl
    clear hna hnb ha hb h1 h3 h2
    go_enter Tryz.func83, Tryz.ntmps83
    go_wp2_with fail
    refine (valid_two A ca a Bd cb b w Ha.out Hb.out Ra.out Rb.out _).mono ?_
    rintro e w1 ⟨rfl, rfl⟩
    rw [show (validB a && validB b) = false from H3.out]
    go_wp2_with fail
    go_ret2
    exact Num2.no HS.out (alloc_below _ _)
  · have H1 := Lib.hid h1
    have H2 := Lib.hid h2
    have H3 := Lib.hid h3
    obtain ⟨v1, v2⟩ := validB_iff.1 h1
    obtain ⟨v3, v4⟩ := validB_iff.1 h2
    have L1 : na ≤ 16 := by omega
    have L2 : nb ≤ 16 := by omega
    have T1 := Lib.hid v2
    have T2 := Lib.hid v4
    have HS : Hid (mulS a b = limS (val a * val b)) := by unfold Hid mulS; rw [h3]; rfl
    clear hna hnb ha hb h1 h2 h3 v1 v2 v3 v4
    go_enter Tryz.func83, Tryz.ntmps83
    go_wp2_with fail
    refine (valid_two A ca a Bd cb b w Ha.out Hb.out Ra.out Rb.out _).mono ?_
    rintro e w1 ⟨rfl, rfl⟩
    rw [show (validB a && validB b) = true from H3.out]
    obtain ⟨W, hW⟩ : ∃ W : World, W = w.alloc (.cells #[.slice A na ca, .slice Bd nb cb] 25) := ⟨_, rfl⟩
    have bW : Below w.heap.size w W := by rw [hW]; exact alloc_below _ _
    rw [← hW]
    clear hW
    have Ra2 := Lib.hid (Ra.out.below bW)
    have Rb2 := Lib.hid (Rb.out.below bW)
    go_wp2_with fail
    refine (times_any A ca a Bd cb b _ Ha.out Hb.out Ra2.out Rb2.out (by omega) (by omega)).mono ?_
    rintro e w2 ⟨X, cx, rfl, hx, hb2⟩
    go_wp2_with fail
    refine (limited_any _ _ _ _).mono ?_
    rintro e w3 ⟨rfl, rfl⟩
    by_cases h16 : (digs (val a * val b)).length ≤ 16
    · rw [limV_yes h16]
      have HL := Lib.hid (limS_yes h16)
      clear h16
      go_wp2_with fail
      go_ret2
      exact Num2.yes (HS.out.trans HL.out) rfl (hx.mono bW.size) (bW.trans (hb2.mono bW.size))
    · rw [limV_no (by omega)]
      have HL := Lib.hid (limS_no h16)
      clear h16
      go_wp2_with fail
      go_ret2
      exact Num2.no (HS.out.trans HL.out) (bW.trans (hb2.mono bW.size))

set_option maxHeartbeats 1000000 in
theorem Compare_any (A : Option Addr) (ca : Nat) (a : List Nat) (Bd : Option Addr) (cb : Nat) (b : List Nat) (w : World) {na nb : Nat} (hna : a.length = na) (hnb : b.length = nb) (ha : NR w A ca a) (hb : NR w Bd cb b) :
    Calls Tryz.prog 128 #[.slice A na ca, .slice Bd nb cb] w fun e w' => Int2 w w' e (cmpS a b) := by
  have Ha := Lib.hid hna
  have Hb := Lib.hid hnb
  have Ra := Lib.hid ha
  have Rb := Lib.hid hb
  rcases bothB_ways a b with ⟨h1, h3⟩ | ⟨h1, h2, h3⟩ | ⟨h1, h2, h3⟩
  · have H1 := Lib.hid h1
    have H3 := Lib.hid h3
    have HS : Hid (cmpS a b = (0, 8)) := by unfold Hid cmpS; rw [h3]; rfl
    clear hna hnb ha hb h1 h3
    go_enter Tryz.func128, Tryz.ntmps128
    go_wp2_with fail
    refine (valid_two A ca a Bd cb b w Ha.out Hb.out Ra.out Rb.out _).mono ?_
    rintro e w1 ⟨rfl, rfl⟩
    rw [show (validB a && validB b) = false from H3.out]
    go_wp2_with fail
    go_ret2
    exact Int2.mk' HS.out (alloc_below _ _)
  · have H1 := Lib.hid h1
    have H2 := Lib.hid h2
    have H3 := Lib.hid h3
    have HS : Hid (cmpS a b = (0, 8)) := by unfold Hid cmpS; rw [h3]; rfl
    clear hna hnb ha hb h1 h3 h2
    go_enter Tryz.func128, Tryz.ntmps128
    go_wp2_with fail
    refine (valid_two A ca a Bd cb b w Ha.out Hb.out Ra.out Rb.out _).mono ?_
    rintro e w1 ⟨rfl, rfl⟩
    rw [show (validB a && validB b) = false from H3.out]
    go_wp2_with fail
    go_ret2
    exact Int2.mk' HS.out (alloc_below _ _)
  · have H1 := Lib.hid h1
    have H2 := Lib.hid h2
    have H3 := Lib.hid h3
    obtain ⟨v1, v2⟩ := validB_iff.1 h1
    obtain ⟨v3, v4⟩ := validB_iff.1 h2
    have L1 : na ≤ 16 := by omega
    have L2 : nb ≤ 16 := by omega
    have T1 := Lib.hid v2
    have T2 := Lib.hid v4
    have HS : Hid (cmpS a b = (cmpN (val a) (val b), 0)) := by unfold Hid cmpS; rw [h3]; rfl
    clear hna hnb ha hb h1 h2 h3 v1 v2 v3 v4
    go_enter Tryz.func128, Tryz.ntmps128
    go_wp2_with fail
    refine (valid_two A ca a Bd cb b w Ha.out Hb.out Ra.out Rb.out _).mono ?_
    rintro e w1 ⟨rfl, rfl⟩
    rw [show (validB a && validB b) = true from H3.out]
    obtain ⟨W, hW⟩ : ∃ W : World, W = w.alloc (.cells #[.slice A na ca, .slice Bd nb cb] 25) := ⟨_, rfl⟩
    have bW : Below w.heap.size w W := by rw [hW]; exact alloc_below _ _
    rw [← hW]
    clear hW
    have Ra2 := Lib.hid (Ra.out.below bW)
    have Rb2 := Lib.hid (Rb.out.below bW)
    go_wp2_with fail
    refine (order_any A ca a Bd cb b _ Ha.out Hb.out Ra2.out Rb2.out T1.out T2.out).mono ?_
    rintro e w2 ⟨rfl, hb2⟩
    go_wp2_with fail
    go_ret2
    exact Int2.mk' HS.out (bW.trans (hb2.mono bW.size))

set_option maxHeartbeats 1000000 in
theorem Div_any (A : Option Addr) (ca : Nat) (a : List Nat) (Bd : Option Addr) (cb : Nat) (b : List Nat) (w : World) {na nb : Nat} (hna : a.length = na) (hnb : b.length = nb) (ha : NR w A ca a) (hb : NR w Bd cb b) :
    Calls Tryz.prog 106 #[.slice A na ca, .slice Bd nb cb] w fun e w' => Num3 w w' e (divS a b) := by
  have Ha := Lib.hid hna
  have Hb := Lib.hid hnb
  have Ra := Lib.hid ha
  have Rb := Lib.hid hb
  rcases bothB_ways a b with ⟨h1, h3⟩ | ⟨h1, h2, h3⟩ | ⟨h1, h2, h3⟩
  · have H1 := Lib.hid h1
    have H3 := Lib.hid h3
    have HS : Hid (divS a b = ([], [], 8)) := by unfold Hid divS; rw [h3]; rfl
    clear hna hnb ha hb h1 h3
    go_enter Tryz.func106, Tryz.ntmps106
    go_wp2_with fail
    refine (valid_two A ca a Bd cb b w Ha.out Hb.out Ra.out Rb.out _).mono ?_
    rintro e w1 ⟨rfl, rfl⟩
    rw [show (validB a && validB b) = false from H3.out]
    go_wp2_with fail
    go_ret3
    exact Num3.no HS.out (alloc_below _ _)
  · have H1 := Lib.hid h1
    have H2 := Lib.hid h2
    have H3 := Lib.hid h3
    have HS : Hid (divS a b = ([], [], 8)) := by unfold Hid divS; rw [h3]; rfl
    clear hna hnb ha hb h1 h3 h2
    go_enter Tryz.func106, Tryz.ntmps106
    go_wp2_with fail
    refine (valid_two A ca a Bd cb b w Ha.out Hb.out Ra.out Rb.out _).mono ?_
    rintro e w1 ⟨rfl, rfl⟩
    rw [show (validB a && validB b) = false from H3.out]
    go_wp2_with fail
    go_ret3
    exact Num3.no HS.out (alloc_below _ _)
  · have H1 := Lib.hid h1
    have H2 := Lib.hid h2
    have H3 := Lib.hid h3
    obtain ⟨v1, v2⟩ := validB_iff.1 h1
    obtain ⟨v3, v4⟩ := validB_iff.1 h2
    have L1 : na ≤ 16 := by omega
    have L2 : nb ≤ 16 := by omega
    have T1 := Lib.hid v2
    have T2 := Lib.hid v4
    clear hna hnb ha hb h1 h2 h3 v1 v2 v3 v4
    by_cases hne : b = []
    · have HS : Hid (divS a b = ([], [], 10)) := by unfold Hid divS; rw [H3.out, if_pos rfl, if_pos hne]
      have hz : ((nb : Int) == 0) = true := by have := Hb.out; rw [hne] at this; simp at this; simp; omega
      have hz' : (nb == 0) = true := by have := Hb.out; rw [hne] at this; simp at this; simp; omega
      clear hne
      go_enter Tryz.func106, Tryz.ntmps106
      go_wp2_with fail
      refine (valid_two A ca a Bd cb b w Ha.out Hb.out Ra.out Rb.out _).mono ?_
      rintro e w1 ⟨rfl, rfl⟩
      rw [show (validB a && validB b) = true from H3.out]
      obtain ⟨W, hW⟩ : ∃ W : World, W = w.alloc (.cells #[.slice A na ca, .slice Bd nb cb] 25) := ⟨_, rfl⟩
      have bW : Below w.heap.size w W := by rw [hW]; exact alloc_below _ _
      rw [← hW]
      clear hW
      have Ra2 := Lib.hid (Ra.out.below bW)
      have Rb2 := Lib.hid (Rb.out.below bW)
      go_wp2_with fail
      go_ret3
      exact Num3.no HS.out bW
    · have HS : Hid (divS a b = (digs (val a / val b), digs (val a % val b), 0)) := by unfold Hid divS; rw [H3.out, if_pos rfl, if_neg hne]
      have HN := Lib.hid hne
      have hz : ((nb : Int) == 0) = false := by have := Hb.out; have h : 0 < b.length := List.length_pos_iff.2 hne; simp; omega
      have hz' : (nb == 0) = false := by have := Hb.out; have h : 0 < b.length := List.length_pos_iff.2 hne; simp; omega
      clear hne
      go_enter Tryz.func106, Tryz.ntmps106
      go_wp2_with fail
      refine (valid_two A ca a Bd cb b w Ha.out Hb.out Ra.out Rb.out _).mono ?_
      rintro e w1 ⟨rfl, rfl⟩
      rw [show (validB a && validB b) = true from H3.out]
      obtain ⟨W, hW⟩ : ∃ W : World, W = w.alloc (.cells #[.slice A na ca, .slice Bd nb cb] 25) := ⟨_, rfl⟩
      have bW : Below w.heap.size w W := by rw [hW]; exact alloc_below _ _
      rw [← hW]
      clear hW
      have Ra2 := Lib.hid (Ra.out.below bW)
      have Rb2 := Lib.hid (Rb.out.below bW)
      go_wp2_with fail
      refine (parted_any A ca a Bd cb b _ Ha.out Hb.out Ra2.out Rb2.out T1.out T2.out HN.out (by omega) (by omega)).mono ?_
      rintro e w3 ⟨Q, cq, R, cr, rfl, hq, hr, hap, hb3⟩
      go_wp2_with fail
      go_ret3
      exact Num3.yes HS.out rfl rfl (hq.mono bW.size) (hr.mono bW.size) hap (bW.trans (hb3.mono bW.size))

end Go.Proofs.YtchnaimpmegbkaaGreatDoor

/- Whether two numbers have the same digits; a number that is spoilt. -/
namespace Go.Proofs.YtchnaimpmegbkaaGreatDoor
open Go.RowKit
set_option linter.unusedVariables false

theorem dg_ext {a b : List Nat} (hl : a.length = b.length) (h : ∀ j, j < a.length → dg a j = dg b j) : a = b := by
  refine List.ext_getElem hl fun i h1 h2 => ?_
  have := h i h1
  rwa [dg_in h1, dg_in h2] at this
/-- The digits are the same. -/
def sameB (a b : List Nat) : Bool := decide (a = b)
theorem sameB_yes {a b : List Nat} (h : a = b) : sameB a b = true := by simp [sameB, h]
theorem sameB_no {a b : List Nat} (h : a ≠ b) : sameB a b = false := by simp [sameB, h]

set_option maxHeartbeats 1000000 in
theorem Same_any (A : Option Addr) (ca : Nat) (a : List Nat) (Bd : Option Addr) (cb : Nat) (b : List Nat) (w : World) {na nb : Nat} (hna : a.length = na) (hnb : b.length = nb) (ha : NR w A ca a) (hb : NR w Bd cb b) :
    Calls Tryz.prog 119 #[.slice A na ca, .slice Bd nb cb] w fun e w' => e = .returned (.bool (sameB a b)) ∧ Below w.heap.size w w' := by
  have la : na ≤ 35184372088832 := by have := ha.len; omega
  have lb : nb ≤ 35184372088832 := by have := hb.len; omega
  have Ha := Lib.hid hna
  have Hb := Lib.hid hnb
  have Ra := Lib.hid ha
  have Rb := Lib.hid hb
  by_cases hne : na = nb
  · subst hne
    clear hna hnb ha hb
    go_enter Tryz.func119, Tryz.ntmps119
    go_wp2_with fail
    go_loopw [5] (fun vk wr => ∃ k : Nat, k ≤ na ∧ vk = .int .i64 k ∧ Hid (∀ j, j < k → dg a j = dg b j) ∧ Below w.heap.size w wr) (fun vk _ => na - (intOf vk).toNat)
    case atStart => exact ⟨0, by omega, rfl, fun j hj => absurd hj (Nat.not_lt_zero _), Below.refl _ _⟩
    case round =>
      obtain ⟨k, hk, rfl, HS, hbel⟩ := hrel
      by_cases hkn : k < na
      · obtain ⟨b0, o0, rfl, hb0, hc0⟩ := Ra.out.at_ (i := k) (by have := Ha.out; omega)
        obtain ⟨b1, o1, rfl, hb1, hc1⟩ := Rb.out.at_ (i := k) (by have := Hb.out; omega)
        have hca : wr.cell? ⟨b0, o0 + k, none⟩ = some (.int .u32 (dg a k : Nat)) := (hbel.cell (p := ⟨b0, _, none⟩) hb0).trans hc0
        have hcb : wr.cell? ⟨b1, o1 + k, none⟩ = some (.int .u32 (dg b k : Nat)) := (hbel.cell (p := ⟨b1, _, none⟩) hb1).trans hc1
        have hki : (k : Int) < na := by omega
        have hki0 : (0 : Int) ≤ k := by omega
        clear hc0 hc1
        by_cases he : dg a k = dg b k
        · have h1 : ((dg a k : Int) != dg b k) = false := by simp [he]
          have h1' : (dg a k != dg b k) = false := by simp [he]
          have HE := Lib.hid he
          clear he
          go_wp2_with fail
          go_region
          go_wp2_with fail
          go_roundw
          case rel => exact ⟨k + 1, by omega, by go_num, fun j hj => by
            by_cases e : j = k
            · rw [e]; exact HE.out
            · exact HS.out j (by omega), hbel.drew⟩
          case measure => simp [intOf]; omega
        · have h1 : ((dg a k : Int) != dg b k) = true := by simp; omega
          have h1' : (dg a k != dg b k) = true := by simp [he]
          have HE : Hid (sameB a b = false) := sameB_no fun e => he (by rw [e])
          clear he
          go_wp2_with fail
          go_region
          go_wp2_with fail
          go_ret
          exact ⟨ret_bool HE.out.symm, hbel.drew⟩
      · obtain rfl : k = na := by omega
        have HE : Hid (sameB a b = true) := sameB_yes (dg_ext (by have := Ha.out; have := Hb.out; omega) fun j hj => HS.out j (by have := Ha.out; omega))
        go_wp2_with fail
        go_ret
        exact ⟨ret_bool HE.out.symm, hbel⟩
  · have h1 : ((na : Int) != nb) = true := by simp; omega
    have h1' : (na != nb) = true := by simp [hne]
    have HE : Hid (sameB a b = false) := sameB_no fun e => hne (by rw [← hna, ← hnb, e])
    clear hna hnb ha hb hne
    go_enter Tryz.func119, Tryz.ntmps119
    go_wp2_with fail
    go_ret
    exact ⟨ret_bool HE.out.symm, Below.refl _ _⟩

theorem NF.set {B : Nat} {w : World} {c b off : Nat} {l : List Nat} (h : NF B w (some ⟨b, off, none⟩) c l) {i x : Nat} (hi : i < l.length) (hx : x < 4294967296) : NF B (w.setCell ⟨b, off + i, none⟩ (.int .u32 (x : Nat))) (some ⟨b, off, none⟩) c (l.set i x) := by
  have hne : l ≠ [] := fun e => by rw [e] at hi; simp at hi
  obtain ⟨b1, o1, e1, hb, hc⟩ := h.1.2.2.2 hne
  obtain ⟨b2, o2, e2, hB, hf⟩ := h.2 hne
  injection e1 with e1
  injection e1 with e1 e1'
  injection e2 with e2
  injection e2 with e2 e2'
  subst e1 e1' e2 e2'
  refine ⟨⟨h.1.1.set i hx, by rw [List.length_set]; exact h.1.2.1, by rw [List.length_set]; exact h.1.2.2.1, fun _ => ⟨b, off, rfl, by simpa using hb, fun j hj => ?_⟩⟩, fun _ => ⟨b, off, rfl, hB, fun j hj => ?_⟩⟩
  · rw [List.length_set] at hj
    by_cases e : i = j
    · subst e
      rw [dg_set_same hi]
      exact World.cell?_setCell_same' _ _ _ (by rw [hc i hi]; rfl)
    · rw [dg_set_other e]
      rw [World.cell?_setCell_other (h := by intro e2; injection e2 with _ e3; omega)]
      exact hc j hj
  · rw [List.length_set] at hj
    exact (World.frozen?_setCell ..).trans (hf j hj)

theorem NF.some {B : Nat} {w : World} {A : Option Addr} {c : Nat} {l : List Nat} (h : NF B w A c l) : l ≠ [] → ∃ g o, A = some ⟨g, o, none⟩ := fun hn => by
  obtain ⟨b, off, e, _⟩ := h.2 hn
  exact ⟨b, off, e⟩

end Go.Proofs.YtchnaimpmegbkaaGreatDoor

/- Fractions in lowest terms; the small helpers of the laws. -/
namespace Go.Proofs.YtchnaimpmegbkaaGreatDoor
open Go.RowKit
set_option linter.unusedVariables false

theorem gcdN_pos_right {x y : Nat} (h : y ≠ 0) : gcdN x y ≠ 0 := by
  intro e
  have := Nat.gcd_pos_of_pos_right x (Nat.pos_of_ne_zero h)
  unfold gcdN at e
  omega
theorem gcdN_le {x y : Nat} (h : y ≠ 0) : gcdN x y ≤ y := Nat.gcd_le_right x (Nat.pos_of_ne_zero h)
/-- The fraction in lowest terms. -/
def lowS (x y : Nat) : List Nat × List Nat := (digs (x / gcdN x y), digs (y / gcdN x y))
def ratS (a b : List Nat) : (List Nat × List Nat) × Int := if bothB a b = true then (if b = [] then (([], []), 10) else (lowS (val a) (val b), 0)) else (([], []), 8)
/-- A fraction in new memory. -/
def FracNew (w w' : World) (v : Value) (r : List Nat × List Nat) : Prop :=
  ∃ X c Y d, v = .agg #[.slice X r.1.length c, .slice Y r.2.length d] ∧ NF w.heap.size w' X c r.1 ∧ NF w.heap.size w' Y d r.2 ∧ Apart X r.1 Y r.2 ∧ Below w.heap.size w w'
theorem FracNew.zero {w w' : World} (hb : Below w.heap.size w w') : FracNew w w' (.agg #[.slice none 0 0, .slice none 0 0]) ([], []) := ⟨none, 0, none, 0, rfl, NF.nil _ _, NF.nil _ _, fun h => absurd rfl h, hb⟩
theorem FracNew.mono {w w1 w2 : World} {v : Value} {r : List Nat × List Nat} (h : FracNew w1 w2 v r) (k : Below w.heap.size w w1) : FracNew w w2 v r := by
  obtain ⟨X, c, Y, d, rfl, h1, h2, h3, h4⟩ := h
  exact ⟨X, c, Y, d, rfl, h1.mono k.size, h2.mono k.size, h3, k.trans (h4.mono k.size)⟩
theorem FracNew.below {w w1 w2 : World} {v : Value} {r : List Nat × List Nat} (h : FracNew w w1 v r) (k : Below w1.heap.size w1 w2) : FracNew w w2 v r := by
  obtain ⟨X, c, Y, d, rfl, h1, h2, h3, h4⟩ := h
  exact ⟨X, c, Y, d, rfl, h1.below k, h2.below k, h3, h4.trans (k.mono h4.size)⟩

/-- A block of two cells: a fraction of the call's own. -/
def Bx (w : World) (g : Nat) (u v : Value) : Prop := w.heap[g]? = some (.cells #[u, v] 27 (0, 0))
theorem Bx.new (w : World) (u v : Value) : Bx (w.alloc (.cells #[u, v] 27)) w.heap.size u v := heap_alloc_new _ _
theorem Bx.lt {w : World} {g : Nat} {u v : Value} (h : Bx w g u v) : g < w.heap.size := (Array.getElem?_eq_some_iff.1 h).1
theorem Bx.below {w w' : World} {g : Nat} {u v : Value} (h : Bx w g u v) (k : Below w.heap.size w w') : Bx w' g u v := (k.block g h.lt).trans h
theorem Bx.cells {w : World} {g : Nat} {u v : Value} (h : Bx w g u v) : w.cell? ⟨g, 0, none⟩ = some u ∧ w.cell? ⟨g, 1, none⟩ = some v ∧ w.frozen? ⟨g, 0, none⟩ = false ∧ w.frozen? ⟨g, 1, none⟩ = false := by
  have h1 : w.heap[g]? = _ := h
  exact ⟨by simp [World.cell?, h1], by simp [World.cell?, h1], by simp [World.frozen?, h1], by simp [World.frozen?, h1]⟩

set_option maxHeartbeats 1000000 in
set_option maxRecDepth 100000 in
theorem lowest_any (A : Option Addr) (ca : Nat) (a : List Nat) (Bd : Option Addr) (cb : Nat) (b : List Nat) (w : World) {na nb : Nat} (hna : a.length = na) (hnb : b.length = nb) (ha : NR w A ca a) (hb : NR w Bd cb b) (ta : Trm a) (tb : Trm b) (hne : b ≠ []) (la : na ≤ 1048000) (lb : nb ≤ 1048000) :
    Calls Tryz.prog 58 #[.slice A na ca, .slice Bd nb cb] w fun e w' => ∃ v, e = .returned v ∧ FracNew w w' v (lowS (val a) (val b)) := by
  have Ha := Lib.hid hna
  have Hb := Lib.hid hnb
  have Ra := Lib.hid ha
  have Rb := Lib.hid hb
  have vb : val b ≠ 0 := by have := val_pos tb hne; omega
  obtain ⟨g, hg⟩ : ∃ g, gcdN (val a) (val b) = g := ⟨_, rfl⟩
  have hg0 : g ≠ 0 := by rw [← hg]; exact gcdN_pos_right vb
  have hgl : Hid ((digs g).length ≤ 1048000) := by
    have h1 := digs_len_mono (gcdN_le (x := val a) vb)
    rw [hg, digs_val hb.dig tb, hnb] at h1
    exact Nat.le_trans h1 lb
  have HG := Lib.hid hg
  have HN : Hid (digs g ≠ []) := digs_ne hg0
  have HL : Hid (lowS (val a) (val b) = (digs (val a / g), digs (val b / g))) := by unfold Hid lowS; rw [hg]
  have e0 : ∀ v, (w.alloc (.cells #[v, .slice none 0 0] 27)) = (w.alloc (.cells #[v, .slice none 0 0] 27)) := fun _ => rfl
  have b0 := alloc_below w (.cells #[.slice none 0 0, .slice none 0 0] 27)
  clear hna hnb ha hb vb hg hg0 e0
  go_enter Tryz.func58, Tryz.ntmps58
  go_wp2_with fail
  refine (common_any A ca a Bd cb b _ Ha.out Hb.out (Ra.out.below b0) (Rb.out.below b0) ta tb la lb).mono ?_
  rintro e w1 ⟨G, cg, rfl, hG, b1⟩
  rw [HG.out] at hG ⊢
  go_wp2_with fail
  refine (parted_any A ca a G cg (digs g) _ Ha.out rfl ((Ra.out.below b0).below b1) hG.1 ta (Trm.digs _) HN.out la hgl.out).mono ?_
  rintro e w2 ⟨Q, cq, R, cr, rfl, hQ, hR, hap, b2⟩
  rw [val_digs] at hQ hR ⊢
  go_wp2_with fail
  refine (parted_any Bd cb b G cg (digs g) _ Hb.out rfl (((Rb.out.below b0).below b1).below b2) (hG.1.below b2) tb (Trm.digs _) HN.out lb hgl.out).mono ?_
  rintro e w3 ⟨Q2, cq2, R2, cr2, rfl, hQ2, hR2, hap2, b3⟩
  rw [val_digs] at hQ2 hR2 ⊢
  have k1 : Below w.heap.size w w1 := b0.trans (b1.mono b0.size)
  have k2 := k1.trans (b2.mono k1.size)
  have k3 := k2.trans (b3.mono k2.size)
  obtain ⟨c0, c1, f0, f1⟩ := ((((Bx.new w (.slice none 0 0) (.slice none 0 0)).below b1).below b2).below b3).cells
  have z1 : w.heap.size + 1 ≤ w1.heap.size := by have := b1.size; simpa using this
  have HQ : Hid (NF (w.heap.size + 1) w3 Q cq (digs (val a / g))) := (hQ.below b3).mono z1
  have HQ2 : Hid (NF (w.heap.size + 1) w3 Q2 cq2 (digs (val b / g))) := hQ2.mono (Nat.le_trans z1 b2.size)
  have HAP : Hid (Apart Q (digs (val a / g)) Q2 (digs (val b / g))) := fun n1 n2 g1 o1 g2 o2 x1 x2 => by
    obtain ⟨b1', o1', e1', h1', _⟩ := hQ.1.2.2.2 n1
    obtain ⟨b2', o2', e2', h2', _⟩ := hQ2.2 n2
    rw [x1] at e1'
    rw [x2] at e2'
    injection e1' with e1'
    injection e1' with e1'
    injection e2' with e2'
    injection e2' with e2'
    omega
  clear hQ hQ2 hR hR2 hap hap2 hG b0 b1 b2 b3 k1 k2 z1
  go_wp2_with fail
  have nq := ((HQ.out.far (p := ⟨w.heap.size, 0, none⟩) (Nat.lt_succ_self _) (.slice Q (digs (val a / g)).length cq)).far (p := ⟨w.heap.size, 1, none⟩) (Nat.lt_succ_self _) (.slice Q2 (digs (val b / g)).length cq2)).mono (Nat.le_succ w.heap.size)
  have nq2 := ((HQ2.out.far (p := ⟨w.heap.size, 0, none⟩) (Nat.lt_succ_self _) (.slice Q (digs (val a / g)).length cq)).far (p := ⟨w.heap.size, 1, none⟩) (Nat.lt_succ_self _) (.slice Q2 (digs (val b / g)).length cq2)).mono (Nat.le_succ w.heap.size)
  refine bodyPost_ret (v := .agg #[.slice Q (digs (val a / g)).length cq, .slice Q2 (digs (val b / g)).length cq2]) (by simp [results, Tryz.f58, go_sem, c0, c1]) rfl ⟨_, rfl, ?_⟩
  rw [HL.out]
  exact ⟨Q, cq, Q2, cq2, rfl, nq, nq2, HAP.out, (k3.setCell (p := ⟨w.heap.size, 0, none⟩) (Nat.le_refl _) _).setCell (p := ⟨w.heap.size, 1, none⟩) (Nat.le_refl _) _⟩
/-! ### printed -/

/-- A fraction in new memory and an error. -/
def Frac2 (w w' : World) (e : Ending) (r : (List Nat × List Nat) × Int) : Prop := ∃ v, e = .returned (.tuple #[v, .int .i64 r.2]) ∧ FracNew w w' v r.1
theorem Frac2.mk' {w w' : World} {r : (List Nat × List Nat) × Int} {l : List Nat × List Nat} {x : Int} {v : Value} (h : r = (l, x)) (hf : FracNew w w' v l) : Frac2 w w' (.returned (.tuple #[v, .int .i64 x])) r := by
  subst h
  exact ⟨v, rfl, hf⟩
theorem fracNew_store {w w3 : World} {g : Nat} {X Y : Option Addr} {c d : Nat} {l m : List Nat} (hX : NF (g + 1) w3 X c l) (hY : NF (g + 1) w3 Y d m) (ap : Apart X l Y m) (hg : w.heap.size ≤ g) (hb : Below w.heap.size w w3) (u v : Value) :
    FracNew w ((w3.setCell ⟨g, 0, none⟩ u).setCell ⟨g, 1, none⟩ v) (.agg #[.slice X l.length c, .slice Y m.length d]) (l, m) :=
  ⟨X, c, Y, d, rfl, ((hX.far (p := ⟨g, 0, none⟩) (Nat.lt_succ_self _) u).far (p := ⟨g, 1, none⟩) (Nat.lt_succ_self _) v).mono (by omega), ((hY.far (p := ⟨g, 0, none⟩) (Nat.lt_succ_self _) u).far (p := ⟨g, 1, none⟩) (Nat.lt_succ_self _) v).mono (by omega), ap,
    (hb.setCell (p := ⟨g, 0, none⟩) hg _).setCell (p := ⟨g, 1, none⟩) hg _⟩

set_option maxHeartbeats 1000000 in
set_option maxRecDepth 100000 in
theorem Ratio_any (A : Option Addr) (ca : Nat) (a : List Nat) (Bd : Option Addr) (cb : Nat) (b : List Nat) (w : World) {na nb : Nat} (hna : a.length = na) (hnb : b.length = nb) (ha : NR w A ca a) (hb : NR w Bd cb b) :
    Calls Tryz.prog 22 #[.slice A na ca, .slice Bd nb cb] w fun e w' => Frac2 w w' e (ratS a b) := by
  have Ha := Lib.hid hna
  have Hb := Lib.hid hnb
  have Ra := Lib.hid ha
  have Rb := Lib.hid hb
  have b0 := alloc_below w (.cells #[.slice none 0 0, .slice none 0 0] 27)
  obtain ⟨W0, hW0⟩ : ∃ W : World, W = w.alloc (.cells #[.slice none 0 0, .slice none 0 0] 27) := ⟨_, rfl⟩
  have x0 := Bx.new w (.slice none 0 0) (.slice none 0 0)
  have z0 : w.heap.size + 1 ≤ W0.heap.size := by rw [hW0]; simp
  rw [← hW0] at b0 x0
  have Ra0 := Lib.hid (ha.below b0)
  have Rb0 := Lib.hid (hb.below b0)
  have HX0 := Lib.hid x0
  have HW0 := Lib.hid hW0
  have HZ0 : Hid (W0.heap.size = w.heap.size + 1) := by unfold Hid; rw [hW0]; simp
  rcases bothB_ways a b with ⟨h1, h3⟩ | ⟨h1, h2, h3⟩ | ⟨h1, h2, h3⟩
  · have H1 := Lib.hid h1
    have H3 := Lib.hid h3
    have HS : Hid (ratS a b = (([], []), 8)) := by unfold Hid ratS; rw [h3]; rfl
    obtain ⟨c0, c1, f0, f1⟩ := (x0.below (alloc_below W0 (.cells #[.slice A na ca, .slice Bd nb cb] 25))).cells
    have bF : Below w.heap.size w (W0.alloc (.cells #[.slice A na ca, .slice Bd nb cb] 25)) := b0.alloc b0.size _
    clear hna hnb ha hb h1 h3 hW0 x0
    go_enter Tryz.func22, Tryz.ntmps22
    go_wp2_with fail
    rw [← HW0.out, ← HZ0.out]
    refine (valid_two A ca a Bd cb b W0 Ha.out Hb.out Ra0.out Rb0.out _).mono ?_
    rintro e w1 ⟨rfl, rfl⟩
    rw [show (validB a && validB b) = false from H3.out]
    go_wp2_with fail
    exact bodyPost_ret (v := .tuple #[.agg #[.slice none 0 0, .slice none 0 0], .int .i64 8]) (by simp [results, Tryz.f22, go_sem, c0, c1]) rfl (Frac2.mk' HS.out (FracNew.zero ((bF.setCell (p := ⟨w.heap.size, 0, none⟩) (Nat.le_refl _) _).setCell (p := ⟨w.heap.size, 1, none⟩) (Nat.le_refl _) _)))
  · have H1 := Lib.hid h1
    have H3 := Lib.hid h3
    have H2 := Lib.hid h2
    have HS : Hid (ratS a b = (([], []), 8)) := by unfold Hid ratS; rw [h3]; rfl
    obtain ⟨c0, c1, f0, f1⟩ := (x0.below (alloc_below W0 (.cells #[.slice A na ca, .slice Bd nb cb] 25))).cells
    have bF : Below w.heap.size w (W0.alloc (.cells #[.slice A na ca, .slice Bd nb cb] 25)) := b0.alloc b0.size _
    clear hna hnb ha hb h1 h3 hW0 x0 h2
    go_enter Tryz.func22, Tryz.ntmps22
    go_wp2_with fail
    rw [← HW0.out, ← HZ0.out]
    refine (valid_two A ca a Bd cb b W0 Ha.out Hb.out Ra0.out Rb0.out _).mono ?_
    rintro e w1 ⟨rfl, rfl⟩
    rw [show (validB a && validB b) = false from H3.out]
    go_wp2_with fail
    exact bodyPost_ret (v := .tuple #[.agg #[.slice none 0 0, .slice none 0 0], .int .i64 8]) (by simp [results, Tryz.f22, go_sem, c0, c1]) rfl (Frac2.mk' HS.out (FracNew.zero ((bF.setCell (p := ⟨w.heap.size, 0, none⟩) (Nat.le_refl _) _).setCell (p := ⟨w.heap.size, 1, none⟩) (Nat.le_refl _) _)))
  · have H1 := Lib.hid h1
    have H3 := Lib.hid h3
    have H2 := Lib.hid h2
    obtain ⟨v1, v2⟩ := validB_iff.1 h1
    obtain ⟨v3, v4⟩ := validB_iff.1 h2
    have L1 : na ≤ 16 := by omega
    have L2 : nb ≤ 16 := by omega
    have T1 := Lib.hid v2
    have T2 := Lib.hid v4
    by_cases hne : b = []
    · have HS : Hid (ratS a b = (([], []), 10)) := by unfold Hid ratS; rw [H3.out, if_pos rfl, if_pos hne]
      have hz : ((nb : Int) == 0) = true := by have := Hb.out; rw [hne] at this; simp at this; simp; omega
      have hz' : (nb == 0) = true := by have := Hb.out; rw [hne] at this; simp at this; simp; omega
      obtain ⟨c0, c1, f0, f1⟩ := (x0.below (alloc_below W0 (.cells #[.slice A na ca, .slice Bd nb cb] 25))).cells
      have bF : Below w.heap.size w (W0.alloc (.cells #[.slice A na ca, .slice Bd nb cb] 25)) := b0.alloc b0.size _
      clear hna hnb ha hb h1 h2 h3 hW0 x0 hne v1 v2 v3 v4
      go_enter Tryz.func22, Tryz.ntmps22
      go_wp2_with fail
      rw [← HW0.out, ← HZ0.out]
      refine (valid_two A ca a Bd cb b W0 Ha.out Hb.out Ra0.out Rb0.out _).mono ?_
      rintro e w1 ⟨rfl, rfl⟩
      rw [show (validB a && validB b) = true from H3.out]
      go_wp2_with fail
      exact bodyPost_ret (v := .tuple #[.agg #[.slice none 0 0, .slice none 0 0], .int .i64 10]) (by simp [results, Tryz.f22, go_sem, c0, c1]) rfl (Frac2.mk' HS.out (FracNew.zero ((bF.setCell (p := ⟨w.heap.size, 0, none⟩) (Nat.le_refl _) _).setCell (p := ⟨w.heap.size, 1, none⟩) (Nat.le_refl _) _)))
    · have HS : Hid (ratS a b = (lowS (val a) (val b), 0)) := by unfold Hid ratS; rw [H3.out, if_pos rfl, if_neg hne]
      have HN := Lib.hid hne
      have hz : ((nb : Int) == 0) = false := by have := Hb.out; have h : 0 < b.length := List.length_pos_iff.2 hne; simp; omega
      have hz' : (nb == 0) = false := by have := Hb.out; have h : 0 < b.length := List.length_pos_iff.2 hne; simp; omega
      have xF := x0.below (alloc_below W0 (.cells #[.slice A na ca, .slice Bd nb cb] 25))
      have bF : Below w.heap.size w (W0.alloc (.cells #[.slice A na ca, .slice Bd nb cb] 25)) := b0.alloc b0.size _
      have RaF := Lib.hid (Ra0.out.alloc (.cells #[.slice A na ca, .slice Bd nb cb] 25))
      have RbF := Lib.hid (Rb0.out.alloc (.cells #[.slice A na ca, .slice Bd nb cb] 25))
      have XF := Lib.hid xF
      clear hna hnb ha hb h1 h2 h3 hW0 x0 hne v1 v2 v3 v4 xF
      go_enter Tryz.func22, Tryz.ntmps22
      go_wp2_with fail
      rw [← HW0.out, ← HZ0.out]
      refine (valid_two A ca a Bd cb b W0 Ha.out Hb.out Ra0.out Rb0.out _).mono ?_
      rintro e w1 ⟨rfl, rfl⟩
      rw [show (validB a && validB b) = true from H3.out]
      go_wp2_with fail
      refine (lowest_any A ca a Bd cb b _ Ha.out Hb.out RaF.out RbF.out T1.out T2.out HN.out (by omega) (by omega)).mono ?_
      rintro e w2 ⟨v, rfl, X, c, Y, d, rfl, hX, hY, hap, hb2⟩
      obtain ⟨c0, c1, f0, f1⟩ := (XF.out.below hb2).cells
      have k2 := bF.trans (hb2.mono bF.size)
      have HXN : Hid (NF (w.heap.size + 1) w2 X c (lowS (val a) (val b)).1) := hX.mono (by simp; omega)
      have HYN : Hid (NF (w.heap.size + 1) w2 Y d (lowS (val a) (val b)).2) := hY.mono (by simp; omega)
      have HAP := Lib.hid hap
      clear hX hY hap hb2
      generalize lowS (val a) (val b) = r at *
      go_wp2_with fail
      exact bodyPost_ret (v := .tuple #[.agg #[.slice X r.1.length c, .slice Y r.2.length d], .int .i64 0]) (by simp [results, Tryz.f22, go_sem, c0, c1]) rfl (Frac2.mk' HS.out (fracNew_store HXN.out HYN.out HAP.out (Nat.le_refl _) k2 _ _))

end Go.Proofs.YtchnaimpmegbkaaGreatDoor

/- Whether a fraction is valid: the program's answer and the reference's. -/
namespace Go.Proofs.YtchnaimpmegbkaaGreatDoor
open Go.RowKit
set_option linter.unusedVariables false

/-- A valid fraction. -/
def vfB (a b : List Nat) : Bool := bothB a b && decide (b ≠ []) && decide (gcdN (val a) (val b) = 1)
def cfS (a b : List Nat) : Int := if vfB a b = true then 0 else 8
theorem vf_ways (a b : List Nat) : (bothB a b = false ∧ vfB a b = false) ∨ (bothB a b = true ∧ b = [] ∧ vfB a b = false) ∨ (bothB a b = true ∧ b ≠ [] ∧ gcdN (val a) (val b) ≠ 1 ∧ vfB a b = false) ∨ (bothB a b = true ∧ b ≠ [] ∧ gcdN (val a) (val b) = 1 ∧ vfB a b = true) := by
  unfold vfB
  cases h : bothB a b
  · exact .inl ⟨rfl, by simp⟩
  · by_cases h2 : b = []
    · exact .inr (.inl ⟨rfl, h2, by simp [h2]⟩)
    · by_cases h3 : gcdN (val a) (val b) = 1
      · exact .inr (.inr (.inr ⟨rfl, h2, h3, by simp [h2, h3]⟩))
      · exact .inr (.inr (.inl ⟨rfl, h2, h3, by simp [h3]⟩))
theorem bothB_parts {a b : List Nat} (h : bothB a b = true) : validB a = true ∧ validB b = true := by simpa [bothB] using h
theorem digs_one_iff {g : Nat} : digs g = [1] ↔ g = 1 := by
  constructor
  · intro e
    have := val_digs g
    rw [e] at this
    rw [← this]; rfl
  · intro e
    subst e
    rw [digs_pos (by omega)]; rfl
/-- A greatest common divisor that is not 1: another length, or another digit. -/
theorem gcd_not {g : Nat} (h0 : g ≠ 0) (h : g ≠ 1) : (digs g).length ≠ 1 ∨ ((digs g).length = 1 ∧ dg (digs g) 0 ≠ 1) := by
  by_cases hl : (digs g).length = 1
  · refine .inr ⟨hl, fun e => h ?_⟩
    match hd : digs g, hl with
    | [x], _ =>
      rw [hd] at e
      have e2 : x = 1 := e
      exact digs_one_iff.1 (by rw [hd, e2])
  · exact .inl hl

set_option maxHeartbeats 1000000 in
set_option maxRecDepth 100000 in
theorem CheckFraction_any (A : Option Addr) (ca : Nat) (a : List Nat) (Bd : Option Addr) (cb : Nat) (b : List Nat) (w : World) {na nb : Nat} (hna : a.length = na) (hnb : b.length = nb) (ha : NR w A ca a) (hb : NR w Bd cb b) :
    Calls Tryz.prog 85 #[.agg #[.slice A na ca, .slice Bd nb cb]] w fun e w' => e = .returned (.int .i64 (cfS a b)) ∧ Below w.heap.size w w' := by
  have Ha := Lib.hid hna
  have Hb := Lib.hid hnb
  obtain ⟨W0, hW0⟩ : ∃ W : World, W = w.alloc (.cells #[.slice A na ca, .slice Bd nb cb] 27) := ⟨_, rfl⟩
  have b0 : Below w.heap.size w W0 := by rw [hW0]; exact alloc_below _ _
  have x0 : Bx W0 w.heap.size (.slice A na ca) (.slice Bd nb cb) := by rw [hW0]; exact Bx.new _ _ _
  have Ra0 := Lib.hid (ha.below b0)
  have Rb0 := Lib.hid (hb.below b0)
  have HW0 := Lib.hid hW0
  have HZ0 : Hid (W0.heap.size = w.heap.size + 1) := by unfold Hid; rw [hW0]; simp
  -- behind 'valid'
  have xF := Lib.hid (x0.below (alloc_below W0 (.cells #[.slice A na ca, .slice Bd nb cb] 25)))
  have bF : Below w.heap.size w (W0.alloc (.cells #[.slice A na ca, .slice Bd nb cb] 25)) := b0.alloc b0.size _
  obtain ⟨c0, c1, _, _⟩ := x0.cells
  clear hna hnb ha hb hW0 x0
  rcases vf_ways a b with ⟨h1, h2⟩ | ⟨h1, h0, h2⟩ | ⟨h1, h0, hg, h2⟩ | ⟨h1, h0, hg, h2⟩
  · have H1 := Lib.hid h1
    have HS : Hid (cfS a b = 8) := by unfold Hid cfS; rw [h2]; rfl
    clear h1 h2 c0 c1
    go_enter Tryz.func85, Tryz.ntmps85
    go_wp2_with fail
    rw [← HW0.out, ← HZ0.out]
    refine (valid_two A ca a Bd cb b W0 Ha.out Hb.out Ra0.out Rb0.out _).mono ?_
    rintro e w1 ⟨rfl, rfl⟩
    rw [show (validB a && validB b) = false from H1.out]
    go_wp2_with fail
    go_ret
    exact ⟨ret_int HS.out.symm, bF⟩
  · have H1 := Lib.hid h1
    have HS : Hid (cfS a b = 8) := by unfold Hid cfS; rw [h2]; rfl
    have hz : ((nb : Int) == 0) = true := by have := Hb.out; rw [h0] at this; simp at this; simp; omega
    have hz' : (nb == 0) = true := by have := Hb.out; rw [h0] at this; simp at this; simp; omega
    obtain ⟨d0, d1, _, _⟩ := xF.out.cells
    clear h1 h2 h0 c0 c1
    go_enter Tryz.func85, Tryz.ntmps85
    go_wp2_with fail
    rw [← HW0.out, ← HZ0.out]
    refine (valid_two A ca a Bd cb b W0 Ha.out Hb.out Ra0.out Rb0.out _).mono ?_
    rintro e w1 ⟨rfl, rfl⟩
    rw [show (validB a && validB b) = true from H1.out]
    go_wp2_with fail
    go_ret
    exact ⟨ret_int HS.out.symm, bF⟩
  · have H1 := Lib.hid h1
    have HS : Hid (cfS a b = 8) := by unfold Hid cfS; rw [h2]; rfl
    obtain ⟨V1, V2⟩ := bothB_parts h1
    obtain ⟨v1, v2⟩ := validB_iff.1 V1
    obtain ⟨v3, v4⟩ := validB_iff.1 V2
    have L1 : na ≤ 16 := by have := Ha.out; omega
    have L2 : nb ≤ 16 := by have := Hb.out; omega
    have T1 := Lib.hid v2
    have T2 := Lib.hid v4
    have hg0 : gcdN (val a) (val b) ≠ 0 := gcdN_pos_right (by have := val_pos v4 h0; omega)
    have hz : ((nb : Int) == 0) = false := by have := Hb.out; have h : 0 < b.length := List.length_pos_iff.2 h0; rw [beq_eq_false_iff_ne]; omega
    have hz' : (nb == 0) = false := by have := Hb.out; have h : 0 < b.length := List.length_pos_iff.2 h0; rw [beq_eq_false_iff_ne]; omega
    obtain ⟨d0, d1, _, _⟩ := xF.out.cells
    have hgl : Hid ((digs (gcdN (val a) (val b))).length ≤ 16) := by
      have h1 := digs_len_mono (gcdN_le (x := val a) (y := val b) (by have := val_pos v4 h0; omega))
      rw [digs_val Rb0.out.dig v4] at h1
      unfold Hid; omega
    obtain ⟨g, hgg⟩ : ∃ g, gcdN (val a) (val b) = g := ⟨_, rfl⟩
    have HG := Lib.hid hgg
    rw [hgg] at hgl hg hg0
    have hli : ((digs g).length : Int) ≤ 16 := by have := hgl.out; omega
    rcases gcd_not hg0 hg with hgn | ⟨hgn, hgd⟩
    · have t1 : (((digs g).length : Int) != 1) = true := by rw [bne_iff_ne]; omega
      have t1' : ((digs g).length != 1) = true := by rw [bne_iff_ne]; exact hgn
      clear h1 h2 h0 hg hg0 v1 v2 v3 v4 V1 V2 c0 c1 hgg hgn
      go_enter Tryz.func85, Tryz.ntmps85
      go_wp2_with fail
      rw [← HW0.out, ← HZ0.out]
      refine (valid_two A ca a Bd cb b W0 Ha.out Hb.out Ra0.out Rb0.out _).mono ?_
      rintro e w1 ⟨rfl, rfl⟩
      rw [show (validB a && validB b) = true from H1.out]
      go_wp2_with fail
      refine (common_any A ca a Bd cb b _ Ha.out Hb.out (Ra0.out.alloc _) (Rb0.out.alloc _) T1.out T2.out (by omega) (by omega)).mono ?_
      rintro e w2 ⟨G, cg, rfl, hG, hb2⟩
      rw [HG.out] at hG ⊢
      have k2 := bF.trans (hb2.mono bF.size)
      have HGR := Lib.hid hG.1
      clear hG hb2 d0 d1
      go_wp2_with fail
      go_ret
      exact ⟨ret_int HS.out.symm, k2⟩
    · have t1 : (((digs g).length : Int) != 1) = false := by rw [hgn]; rfl
      have t1' : ((digs g).length != 1) = false := by rw [hgn]; rfl
      have t2 : ((dg (digs g) 0 : Int) != 1) = true := by rw [bne_iff_ne]; omega
      have t2' : (dg (digs g) 0 != 1) = true := by rw [bne_iff_ne]; exact hgd
      have HN := Lib.hid hgn
      have hlp : 0 < (digs g).length := by omega
      clear h1 h2 h0 hg hg0 v1 v2 v3 v4 V1 V2 c0 c1 hgg hgn hgd
      go_enter Tryz.func85, Tryz.ntmps85
      go_wp2_with fail
      rw [← HW0.out, ← HZ0.out]
      refine (valid_two A ca a Bd cb b W0 Ha.out Hb.out Ra0.out Rb0.out _).mono ?_
      rintro e w1 ⟨rfl, rfl⟩
      rw [show (validB a && validB b) = true from H1.out]
      go_wp2_with fail
      refine (common_any A ca a Bd cb b _ Ha.out Hb.out (Ra0.out.alloc _) (Rb0.out.alloc _) T1.out T2.out (by omega) (by omega)).mono ?_
      rintro e w2 ⟨G, cg, rfl, hG, hb2⟩
      rw [HG.out] at hG ⊢
      have k2 := bF.trans (hb2.mono bF.size)
      have HGR := Lib.hid hG.1
      clear hG hb2 d0 d1
      obtain ⟨gb, go, rfl, _, gc⟩ := HGR.out.at_ (i := 0) (by have := HN.out; omega)
      rw [Nat.add_zero] at gc
      go_wp2_with fail
      go_ret
      exact ⟨ret_int HS.out.symm, k2⟩
  · have H1 := Lib.hid h1
    have HS : Hid (cfS a b = 0) := by unfold Hid cfS; rw [h2]; rfl
    obtain ⟨V1, V2⟩ := bothB_parts h1
    obtain ⟨v1, v2⟩ := validB_iff.1 V1
    obtain ⟨v3, v4⟩ := validB_iff.1 V2
    have L1 : na ≤ 16 := by have := Ha.out; omega
    have L2 : nb ≤ 16 := by have := Hb.out; omega
    have T1 := Lib.hid v2
    have T2 := Lib.hid v4
    have hz : ((nb : Int) == 0) = false := by have := Hb.out; have h : 0 < b.length := List.length_pos_iff.2 h0; rw [beq_eq_false_iff_ne]; omega
    have hz' : (nb == 0) = false := by have := Hb.out; have h : 0 < b.length := List.length_pos_iff.2 h0; rw [beq_eq_false_iff_ne]; omega
    obtain ⟨d0, d1, _, _⟩ := xF.out.cells
    have HG := Lib.hid hg
    clear h1 h2 h0 hg v1 v2 v3 v4 V1 V2 c0 c1
    go_enter Tryz.func85, Tryz.ntmps85
    go_wp2_with fail
    rw [← HW0.out, ← HZ0.out]
    refine (valid_two A ca a Bd cb b W0 Ha.out Hb.out Ra0.out Rb0.out _).mono ?_
    rintro e w1 ⟨rfl, rfl⟩
    rw [show (validB a && validB b) = true from H1.out]
    go_wp2_with fail
    refine (common_any A ca a Bd cb b _ Ha.out Hb.out (Ra0.out.alloc _) (Rb0.out.alloc _) T1.out T2.out (by omega) (by omega)).mono ?_
    rintro e w2 ⟨G, cg, rfl, hG, hb2⟩
    rw [HG.out] at hG ⊢
    have k2 := bF.trans (hb2.mono bF.size)
    have HGR := Lib.hid hG.1
    clear hG hb2 d0 d1
    have e1 : digs 1 = [1] := digs_one_iff.2 rfl
    rw [e1] at HGR ⊢
    obtain ⟨gb, go, rfl, _, gc⟩ := HGR.out.at_ (i := 0) (by simp)
    rw [Nat.add_zero] at gc
    have gd : (dg [1] 0 : Int) = 1 := rfl
    clear e1
    go_wp2_with fail
    go_ret
    exact ⟨ret_int HS.out.symm, k2⟩

set_option maxHeartbeats 1000000 in
set_option maxRecDepth 100000 in
theorem refValidFraction_any (A : Option Addr) (ca : Nat) (a : List Nat) (Bd : Option Addr) (cb : Nat) (b : List Nat) (w : World) {na nb : Nat} (hna : a.length = na) (hnb : b.length = nb) (ha : NR w A ca a) (hb : NR w Bd cb b) :
    Calls Tryz.prog 92 #[.agg #[.slice A na ca, .slice Bd nb cb]] w fun e w' => e = .returned (.bool (vfB a b)) ∧ Below w.heap.size w w' := by
  have Ha := Lib.hid hna
  have Hb := Lib.hid hnb
  obtain ⟨W0, hW0⟩ : ∃ W : World, W = w.alloc (.cells #[.slice A na ca, .slice Bd nb cb] 27) := ⟨_, rfl⟩
  have b0 : Below w.heap.size w W0 := by rw [hW0]; exact alloc_below _ _
  have x0 : Bx W0 w.heap.size (.slice A na ca) (.slice Bd nb cb) := by rw [hW0]; exact Bx.new _ _ _
  have Ra0 := Lib.hid (ha.below b0)
  have Rb0 := Lib.hid (hb.below b0)
  have HW0 := Lib.hid hW0
  have x1 := x0
  rw [hW0] at x1
  obtain ⟨c0, c1, _, _⟩ := x1.cells
  have lbi : (nb : Int) ≤ 35184372088832 := by have := hb.len; omega
  clear hna hnb ha hb hW0 x1
  cases hva : validB a with
  | false =>
    have HV := Lib.hid hva
    have HS : Hid (vfB a b = false) := by unfold Hid vfB bothB; rw [hva]; simp
    clear hva
    go_enter Tryz.func92, Tryz.ntmps92
    go_wp2_with fail
    rw [← HW0.out]
    refine (refValid_any A ca a _ Ha.out Ra0.out).mono ?_
    rintro e w1 ⟨rfl, rfl⟩
    rw [HV.out]
    go_wp2_with fail
    go_ret
    exact ⟨ret_bool HS.out.symm, b0⟩
  | true =>
    have HV := Lib.hid hva
    cases hvb : validB b with
    | false =>
      have HV2 := Lib.hid hvb
      have HS : Hid (vfB a b = false) := by unfold Hid vfB bothB; rw [hvb]; simp
      obtain ⟨d0, d1, _, _⟩ := x0.cells
      clear hva hvb
      go_enter Tryz.func92, Tryz.ntmps92
      go_wp2_with fail
      rw [← HW0.out]
      refine (refValid_any A ca a _ Ha.out Ra0.out).mono ?_
      rintro e w1 ⟨rfl, rfl⟩
      rw [HV.out]
      go_wp2_with fail
      refine (refValid_any Bd cb b _ Hb.out Rb0.out).mono ?_
      rintro e w1 ⟨rfl, rfl⟩
      rw [HV2.out]
      go_wp2_with fail
      go_ret
      exact ⟨ret_bool HS.out.symm, b0⟩
    | true =>
      have HV2 := Lib.hid hvb
      obtain ⟨v1, v2⟩ := validB_iff.1 hva
      obtain ⟨v3, v4⟩ := validB_iff.1 hvb
      have L1 : na ≤ 16 := by have := Ha.out; omega
      have L2 : nb ≤ 16 := by have := Hb.out; omega
      have T1 := Lib.hid v2
      have T2 := Lib.hid v4
      obtain ⟨d0, d1, _, _⟩ := x0.cells
      by_cases h0 : b = []
      · have HS : Hid (vfB a b = false) := by unfold Hid vfB; rw [h0]; simp
        have hz : decide ((0 : Int) < nb) = false := by have := Hb.out; rw [h0] at this; simp at this; simp; omega
        have hz' : decide (0 < nb) = false := by have := Hb.out; rw [h0] at this; simp at this; simp; omega
        clear hva hvb v1 v2 v3 v4 h0
        go_enter Tryz.func92, Tryz.ntmps92
        go_wp2_with fail
        rw [← HW0.out]
        refine (refValid_any A ca a _ Ha.out Ra0.out).mono ?_
        rintro e w1 ⟨rfl, rfl⟩
        rw [HV.out]
        go_wp2_with fail
        refine (refValid_any Bd cb b _ Hb.out Rb0.out).mono ?_
        rintro e w1 ⟨rfl, rfl⟩
        rw [HV2.out]
        go_wp2_with fail
        go_ret
        exact ⟨ret_bool HS.out.symm, b0⟩
      · have HS : Hid (vfB a b = sameB (digs (gcdN (val a) (val b))) (digs 1)) := by
          unfold Hid vfB bothB sameB
          rw [hva, hvb, show digs 1 = [1] from digs_one_iff.2 rfl]
          simp [h0, digs_one_iff]
        have hz : decide ((0 : Int) < nb) = true := by have := Hb.out; have h : 0 < b.length := List.length_pos_iff.2 h0; simp; omega
        have hz' : decide (0 < nb) = true := by have := Hb.out; have h : 0 < b.length := List.length_pos_iff.2 h0; simp; omega
        clear hva hvb v1 v2 v3 v4 h0
        go_enter Tryz.func92, Tryz.ntmps92
        go_wp2_with fail
        rw [← HW0.out]
        refine (refValid_any A ca a _ Ha.out Ra0.out).mono ?_
        rintro e w1 ⟨rfl, rfl⟩
        rw [HV.out]
        go_wp2_with fail
        refine (refValid_any Bd cb b _ Hb.out Rb0.out).mono ?_
        rintro e w1 ⟨rfl, rfl⟩
        rw [HV2.out]
        go_wp2_with fail
        refine (refCommon_any A ca a Bd cb b _ Ha.out Hb.out Ra0.out Rb0.out T1.out T2.out (by omega) (by omega)).mono ?_
        rintro e w2 ⟨G, cg, rfl, hG, hb2⟩
        have k2 := b0.trans (hb2.mono b0.size)
        have HGR := Lib.hid hG.1
        clear hG hb2 c0 c1 d0 d1
        go_wp2_with fail
        refine (refOf_any 1 _ (by omega)).mono ?_
        rintro e w3 ⟨O, co, rfl, hO, hb3⟩
        have k3 := k2.trans (hb3.mono k2.size)
        go_wp2_with fail
        refine (Same_any G cg _ O co (digs 1) _ rfl rfl (HGR.out.below hb3) hO.1).mono ?_
        rintro e w4 ⟨rfl, hb4⟩
        rw [← HS.out]
        have k4 := k3.trans (hb4.mono k3.size)
        clear hO hb3 hb4
        go_wp2_with fail
        go_ret
        exact ⟨rfl, k4⟩

end Go.Proofs.YtchnaimpmegbkaaGreatDoor

/- Numbers of choices in plain words. -/
namespace Go.Proofs.YtchnaimpmegbkaaGreatDoor
set_option linter.unusedVariables false

/-- The number of ways to choose b of a things. -/
def bin : Nat → Nat → Nat
  | _, 0 => 1
  | 0, _ + 1 => 0
  | a + 1, b + 1 => bin a b + bin a (b + 1)
theorem bin_zero (a : Nat) : bin a 0 = 1 := by cases a <;> rfl
theorem bin_succ (a b : Nat) : bin (a + 1) (b + 1) = bin a b + bin a (b + 1) := rfl
theorem bin_above : ∀ {a b : Nat}, a < b → bin a b = 0
  | 0, 0, h => absurd h (by omega)
  | 0, _ + 1, _ => rfl
  | a + 1, 0, h => absurd h (by omega)
  | a + 1, b + 1, h => by rw [bin_succ, bin_above (by omega), bin_above (by omega)]
theorem bin_self : ∀ a : Nat, bin a a = 1
  | 0 => rfl
  | a + 1 => by rw [bin_succ, bin_self a, bin_above (by omega)]
/-- From one number of choices to the next. -/
theorem bin_next : ∀ (a b : Nat), (b + 1) * bin a (b + 1) = (a - b) * bin a b
  | 0, b => by
    cases b with
    | zero => rfl
    | succ b => simp [bin]
  | a + 1, 0 => by
    rw [bin_succ, bin_zero, bin_zero]
    have := bin_next a 0
    rw [bin_zero] at this
    omega
  | a + 1, b + 1 => by
    have h1 := bin_next a b
    have h2 := bin_next a (b + 1)
    rw [bin_succ, bin_succ]
    rcases Nat.lt_trichotomy a b with h | h | h
    · rw [bin_above (a := a) (b := b + 1 + 1) (by omega), bin_above (a := a) (b := b + 1) (by omega), bin_above (a := a) (b := b) (by omega)]; simp
    · subst h
      rw [bin_above (a := a) (b := a + 1 + 1) (by omega), bin_above (a := a) (b := a + 1) (by omega), show a + 1 - (a + 1) = 0 from by omega]; simp
    · obtain ⟨c, rfl⟩ : ∃ c, a = b + 1 + c := ⟨a - (b + 1), by omega⟩
      rw [show b + 1 + c - b = c + 1 from by omega] at h1
      rw [show b + 1 + c - (b + 1) = c from by omega] at h2
      rw [show b + 1 + c + 1 - (b + 1) = c + 1 from by omega]
      generalize bin (b + 1 + c) b = p at *
      generalize bin (b + 1 + c) (b + 1) = q at *
      generalize bin (b + 1 + c) (b + 1 + 1) = r at *
      rw [Nat.mul_add, h2, Nat.mul_add, ← h1, ← Nat.add_mul, ← Nat.add_mul]
      congr 1
      omega
theorem bin_div (a b : Nat) : bin a (b + 1) = bin a b * (a - b) / (b + 1) := by
  rw [Nat.mul_comm, ← bin_next, Nat.mul_div_cancel_left _ (by omega)]
theorem bin_sym : ∀ (a b : Nat), b ≤ a → bin a b = bin a (a - b)
  | 0, b, h => by obtain rfl : b = 0 := by omega
                  rfl
  | a + 1, 0, _ => by rw [bin_zero, Nat.sub_zero, bin_self]
  | a + 1, b + 1, h => by
    rcases Nat.lt_or_ge b a with h' | h'
    · rw [bin_succ, show a + 1 - (b + 1) = (a - b - 1) + 1 from by omega, bin_succ, bin_sym a b (by omega), bin_sym a (b + 1) (by omega), show a - (b + 1) = a - b - 1 from by omega, show a - b - 1 + 1 = a - b from by omega]
      omega
    · obtain rfl : b = a := by omega
      rw [bin_self, Nat.sub_self, bin_zero]
/-- The sum of some numbers. -/
def sumN (f : Nat → Nat) : Nat → Nat
  | 0 => 0
  | n + 1 => sumN f n + f n
theorem sumN_succ (f : Nat → Nat) (n : Nat) : sumN f (n + 1) = sumN f n + f n := rfl
theorem sumN_congr {f g : Nat → Nat} : ∀ {n : Nat}, (∀ i, i < n → f i = g i) → sumN f n = sumN g n
  | 0, _ => rfl
  | n + 1, h => by rw [sumN_succ, sumN_succ, sumN_congr fun i hi => h i (by omega), h n (by omega)]
theorem sumN_add (f g : Nat → Nat) : ∀ n : Nat, sumN (fun i => f i + g i) n = sumN f n + sumN g n
  | 0 => rfl
  | n + 1 => by rw [sumN_succ, sumN_succ, sumN_succ, sumN_add f g n]; omega
theorem sumN_zero {f : Nat → Nat} : ∀ {n : Nat}, (∀ i, i < n → f i = 0) → sumN f n = 0
  | 0, _ => rfl
  | n + 1, h => by rw [sumN_succ, sumN_zero fun i hi => h i (by omega), h n (by omega)]
theorem sumN_first (f : Nat → Nat) : ∀ n : Nat, sumN f (n + 1) = f 0 + sumN (fun i => f (i + 1)) n
  | 0 => by simp [sumN]
  | n + 1 => by rw [sumN_succ, sumN_first f n, sumN_succ]; omega
theorem sumN_split (f : Nat → Nat) (m : Nat) : ∀ n : Nat, sumN f (m + n) = sumN f m + sumN (fun i => f (m + i)) n
  | 0 => by simp [sumN]
  | n + 1 => by rw [show m + (n + 1) = (m + n) + 1 from by omega, sumN_succ, sumN_split f m n, sumN_succ]; omega
theorem sumN_flip (f : Nat → Nat) : ∀ n : Nat, sumN (fun i => f (n - 1 - i)) n = sumN f n
  | 0 => rfl
  | n + 1 => by
    rw [sumN_first, sumN_succ]
    rw [show n + 1 - 1 - 0 = n from by omega]
    have : sumN (fun i => f (n + 1 - 1 - (i + 1))) n = sumN (fun i => f (n - 1 - i)) n := sumN_congr fun i hi => by rw [show n + 1 - 1 - (i + 1) = n - 1 - i from by omega]
    rw [this, sumN_flip f n]
    omega
theorem sumN_le {f g : Nat → Nat} : ∀ {n : Nat}, (∀ i, i < n → f i ≤ g i) → sumN f n ≤ sumN g n
  | 0, _ => Nat.le_refl _
  | n + 1, h => by
    rw [sumN_succ, sumN_succ]
    have h1 := sumN_le (f := f) (g := g) (n := n) fun i hi => h i (by omega)
    have h2 := h n (by omega)
    omega
theorem sumN_mono (f : Nat → Nat) {m n : Nat} (h : m ≤ n) : sumN f m ≤ sumN f n := by
  obtain ⟨c, rfl⟩ : ∃ c, n = m + c := ⟨n - m, by omega⟩
  rw [sumN_split]
  omega
theorem sumN_bin : ∀ m : Nat, sumN (bin m) (m + 1) = 2 ^ m
  | 0 => rfl
  | m + 1 => by
    rw [sumN_first, bin_zero]
    have h1 : sumN (fun i => bin (m + 1) (i + 1)) (m + 1) = sumN (fun i => bin m i + bin m (i + 1)) (m + 1) := sumN_congr fun i _ => bin_succ m i
    rw [h1, sumN_add, sumN_bin m]
    have h2 := sumN_first (bin m) (m + 1)
    rw [sumN_succ, sumN_bin m, bin_above (a := m) (b := m + 1) (by omega), bin_zero] at h2
    rw [Nat.pow_succ]
    have h3 : sumN (fun i => bin m (i + 1)) (m + 1) = sumN (fun i => bin m (i + 1)) m + bin m (m + 1) := rfl
    omega
theorem bin_le (a b : Nat) : bin a b ≤ 2 ^ a := by
  rcases Nat.lt_or_ge a b with h | h
  · rw [bin_above h]; exact Nat.zero_le _
  · rw [← sumN_bin a]
    have := sumN_mono (bin a) (show b + 1 ≤ a + 1 by omega)
    rw [sumN_succ] at this
    omega
/-- The number of ways to choose d of k and n things, i of them of the k. -/
def pick (k n d i : Nat) : Nat := if i ≤ d then bin k i * bin n (d - i) else 0
theorem pick_above {k n d i : Nat} (h : k < i) : pick k n d i = 0 := by
  unfold pick
  split
  · rw [bin_above h, Nat.zero_mul]
  · rfl
/-- Choices of k and n things, parted (Vandermonde). -/
theorem pick_sum : ∀ (k n d : Nat), sumN (pick k n d) (d + 1) = bin (k + n) d
  | 0, n, d => by
    rw [sumN_first]
    rw [sumN_zero (f := fun i => pick 0 n d (i + 1)) fun i _ => pick_above (by omega)]
    simp [pick, bin_zero]
  | k + 1, n, 0 => by simp [sumN, pick, bin_zero]
  | k + 1, n, d + 1 => by
    have h1 := pick_sum k n d
    have h2 := pick_sum k n (d + 1)
    rw [show k + 1 + n = (k + n) + 1 from by omega, bin_succ, ← h1, ← h2]
    rw [sumN_first (pick (k + 1) n (d + 1)) (d + 1), sumN_first (pick k n (d + 1)) (d + 1)]
    have e : sumN (fun i => pick (k + 1) n (d + 1) (i + 1)) (d + 1) = sumN (fun i => pick k n d i + pick k n (d + 1) (i + 1)) (d + 1) := sumN_congr fun i hi => by
      unfold pick
      rw [if_pos (by omega), if_pos (by omega), if_pos (by omega), bin_succ, show d + 1 - (i + 1) = d - i from by omega, Nat.add_mul]
    rw [e, sumN_add]
    have : pick (k + 1) n (d + 1) 0 = pick k n (d + 1) 0 := by simp [pick, bin_zero]
    omega
/-- How many divisions of 2d places, k of which are marked, have at most x - 1 marked places in the first block. -/
def divsN (d k x : Nat) : Nat := sumN (pick k (2 * d - k) d) x
theorem divsN_all {d k : Nat} (h : k ≤ 2 * d) : divsN d k (k + 1) = bin (2 * d) d := by
  unfold divsN
  have h1 := pick_sum k (2 * d - k) d
  rw [show k + (2 * d - k) = 2 * d from by omega] at h1
  rcases Nat.le_total k d with hk | hk
  · have h2 := sumN_split (pick k (2 * d - k) d) (k + 1) (d - k)
    rw [sumN_zero (f := fun i => pick k (2 * d - k) d (k + 1 + i)) fun i _ => pick_above (by omega), show k + 1 + (d - k) = d + 1 from by omega] at h2
    omega
  · have h2 := sumN_split (pick k (2 * d - k) d) (d + 1) (k - d)
    rw [sumN_zero (f := fun i => pick k (2 * d - k) d (d + 1 + i)) (fun i _ => by unfold pick; rw [if_neg (by omega)]), show d + 1 + (k - d) = k + 1 from by omega] at h2
    omega
theorem pick_flip {d k i : Nat} (hk : k ≤ 2 * d) (hi : i ≤ k) : pick k (2 * d - k) d (k - i) = pick k (2 * d - k) d i := by
  unfold pick
  rw [← bin_sym k i hi]
  by_cases h1 : i ≤ d
  · rw [if_pos h1]
    by_cases h2 : k - i ≤ d
    · rw [if_pos h2]
      by_cases h3 : d - i ≤ 2 * d - k
      · rw [bin_sym (2 * d - k) (d - i) h3, show 2 * d - k - (d - i) = d - (k - i) from by omega]
      · omega
    · rw [if_neg h2, bin_above (a := 2 * d - k) (b := d - i) (by omega), Nat.mul_zero]
  · rw [if_neg h1]
    by_cases h2 : k - i ≤ d
    · rw [if_pos h2, bin_above (a := 2 * d - k) (b := d - (k - i)) (by omega), Nat.mul_zero]
    · rw [if_neg h2]
/-- The tails of x and of k - x - 1 add up to all. -/
theorem divsN_sym {d k x : Nat} (hk : k ≤ 2 * d) (hx : x ≤ k + 1) : divsN d k x + divsN d k (k + 1 - x) = bin (2 * d) d := by
  rw [← divsN_all hk]
  unfold divsN
  have h1 := sumN_flip (pick k (2 * d - k) d) (k + 1)
  have h2 : sumN (fun i => pick k (2 * d - k) d (k + 1 - 1 - i)) (k + 1) = sumN (pick k (2 * d - k) d) (k + 1) := h1
  have h3 := sumN_split (pick k (2 * d - k) d) x (k + 1 - x)
  rw [show x + (k + 1 - x) = k + 1 from by omega] at h3
  rw [h3]
  congr 1
  rw [← sumN_flip]
  refine sumN_congr fun i hi => ?_
  rw [← pick_flip hk (i := x + i) (by omega)]
  congr 1
  omega
end Go.Proofs.YtchnaimpmegbkaaGreatDoor

/- Small numbers: sums, products and quotients in digits; numbers of choices. -/
namespace Go.Proofs.YtchnaimpmegbkaaGreatDoor
open Go.RowKit
set_option linter.unusedVariables false
set_option linter.unusedSimpArgs false

/-- A number that the packages take. -/
def Sm (n : Nat) : Prop := (digs n).length ≤ 16
theorem sm_le {n : Nat} (h : n ≤ 2 ^ 200) : Sm n := Nat.le_trans (digs_len_le (k := 8) (Nat.lt_of_le_of_lt h (by decide +kernel))) (by omega)
theorem Sm.mono {a b : Nat} (h : Sm b) (hab : a ≤ b) : Sm a := Nat.le_trans (digs_len_mono hab) h
theorem Sm.valid {n : Nat} (h : Sm n) : validB (digs n) = true := by rw [validB_digs]; exact decide_eq_true h
theorem Sm.two {a b : Nat} (ha : Sm a) (hb : Sm b) : bothB (digs a) (digs b) = true := by unfold bothB; rw [ha.valid, hb.valid]; rfl
theorem NF.nr_ {B : Nat} {w : World} {A : Option Addr} {c : Nat} {l : List Nat} (h : NF B w A c l) : NR w A c l := h.1

section
variable {x y : Nat} {A Bd : Option Addr} {ca cb la lb : Nat} {w : World}
theorem addD_any (hs : Sm (x + y)) (hla : (digs x).length = la) (hlb : (digs y).length = lb) (ha : NR w A ca (digs x)) (hb : NR w Bd cb (digs y)) :
    Calls Tryz.prog 52 #[.slice A la ca, .slice Bd lb cb] w fun e w' => (∃ A' c', e = .returned (.tuple #[.slice A' (digs (x + y)).length c', .int .i64 0]) ∧ NR w' A' c' (digs (x + y))) ∧ Below w.heap.size w w' := by
  refine (Add_any A ca (digs x) Bd cb (digs y) w hla hlb ha hb).mono fun e w' h => ?_
  have e1 : addS (digs x) (digs y) = (digs (x + y), 0) := by rw [addS, if_pos ((hs.mono (by omega)).two (hs.mono (by omega))), val_digs, val_digs, limS_yes hs]
  rw [e1] at h
  obtain ⟨A', c', he, hf, hbl⟩ := h
  exact ⟨⟨A', c', he, hf.1⟩, hbl⟩
theorem mulD_any (hs : Sm (x * y)) (hx : Sm x) (hy : Sm y) (hla : (digs x).length = la) (hlb : (digs y).length = lb) (ha : NR w A ca (digs x)) (hb : NR w Bd cb (digs y)) :
    Calls Tryz.prog 83 #[.slice A la ca, .slice Bd lb cb] w fun e w' => (∃ A' c', e = .returned (.tuple #[.slice A' (digs (x * y)).length c', .int .i64 0]) ∧ NR w' A' c' (digs (x * y))) ∧ Below w.heap.size w w' := by
  refine (Mul_any A ca (digs x) Bd cb (digs y) w hla hlb ha hb).mono fun e w' h => ?_
  have e1 : mulS (digs x) (digs y) = (digs (x * y), 0) := by rw [mulS, if_pos (hx.two hy), val_digs, val_digs, limS_yes hs]
  rw [e1] at h
  obtain ⟨A', c', he, hf, hbl⟩ := h
  exact ⟨⟨A', c', he, hf.1⟩, hbl⟩
theorem ratioD_any (hx : Sm x) (hy : Sm y) (h0 : y ≠ 0) (hla : (digs x).length = la) (hlb : (digs y).length = lb) (ha : NR w A ca (digs x)) (hb : NR w Bd cb (digs y)) :
    Calls Tryz.prog 22 #[.slice A la ca, .slice Bd lb cb] w fun e w' => ∃ v, e = .returned (.tuple #[v, .int .i64 0]) ∧ FracNew w w' v (lowS x y) := by
  have e1 : ratS (digs x) (digs y) = (lowS x y, 0) := by rw [ratS, if_pos (hx.two hy), if_neg (digs_ne h0), val_digs, val_digs]
  have := Ratio_any A ca (digs x) Bd cb (digs y) w hla hlb ha hb
  rwa [e1] at this
end
theorem ofD_any (n : Nat) (w : World) (h : n ≤ 1000000) :
    Calls Tryz.prog 23 #[.int .u64 (n : Int)] w fun e w' => (∃ A c, e = .returned (.slice A (digs n).length c) ∧ NR w' A c (digs n)) ∧ Below w.heap.size w w' := by
  refine (Of_any n w (by omega)).mono fun e w' h => ?_
  obtain ⟨A', c', he, hf, hbl⟩ := h
  exact ⟨⟨A', c', he, hf.1⟩, hbl⟩
theorem sm_small {n : Nat} (h : n ≤ 1000000) : Sm n := sm_le (Nat.le_trans h (by decide +kernel))
theorem sm_pow {m : Nat} (h : m ≤ 150) : Sm (2 ^ m) := sm_le (Nat.pow_le_pow_right (by omega) (by omega))
theorem sm_bin {m i : Nat} (h : m ≤ 150) : Sm (bin m i) := (sm_pow h).mono (bin_le m i)
theorem sm_bin_mul {m i k : Nat} (h : m ≤ 150) (hk : k ≤ 1000000) : Sm (bin m i * k) := by
  refine sm_le (Nat.le_trans (Nat.mul_le_mul (bin_le m i) hk) ?_)
  refine Nat.le_trans (Nat.mul_le_mul_right _ (Nat.pow_le_pow_right (n := 2) (by omega) h)) (by decide +kernel)
theorem bin_step {m i k : Nat} (h : i + k = m) : bin m i * k / (i + 1) = bin m (i + 1) := by
  rw [bin_div, show m - i = k from by omega]
end Go.Proofs.YtchnaimpmegbkaaGreatDoor
