/-
  The exported functions on natural numbers, the program's and the reference's: each returns what one plain function says.
-/
import Derived.Test.YtphaojdfeojpeaaDivide
import Derived.Test.YtphaojdfeojpeaaNatTimes
import Derived.Test.YtphaojdfeojpeaaNatValid
namespace Go.Proofs.Ytphaojdfeojpeaa
open Go.RowKit
set_option linter.unusedVariables false

/-- Both numbers are valid. -/
def bothB (a b : List Nat) : Bool := validB a && validB b
def limS (n : Nat) : List Nat × Int := if (digs n).length ≤ 16 then (digs n, 0) else ([], 4)
def addS (a b : List Nat) : List Nat × Int := if bothB a b = true then limS (val a + val b) else ([], 8)
def subS (a b : List Nat) : List Nat × Int := if bothB a b = true then (if val a < val b then ([], 11) else (digs (val a - val b), 0)) else ([], 8)
def mulS (a b : List Nat) : List Nat × Int := if bothB a b = true then limS (val a * val b) else ([], 8)
def gcdS (a b : List Nat) : List Nat × Int := if bothB a b = true then (digs (gcdN (val a) (val b)), 0) else ([], 8)
def divS (a b : List Nat) : List Nat × List Nat × Int := if bothB a b = true then (if b = [] then ([], [], 10) else (digs (val a / val b), digs (val a % val b), 0)) else ([], [], 8)
def cmpS (a b : List Nat) : Int × Int := if bothB a b = true then (cmpN (val a) (val b), 0) else (0, 8)
def chkS (a : List Nat) : Int := if validB a = true then 0 else 8

/-- A number in new memory and an error. -/
def Num2 (w w' : World) (e : Ending) (r : List Nat × Int) : Prop :=
  ∃ A c, e = .returned (.tuple #[.slice A r.1.length c, .int .i64 r.2]) ∧ NF w.heap.size w' A c r.1 ∧ Below w.heap.size w w'
theorem Num2.no {w w' : World} {r : List Nat × Int} {x : Int} (h : r = ([], x)) (hb : Below w.heap.size w w') : Num2 w w' (.returned (.tuple #[.slice none 0 0, .int .i64 x])) r := by
  subst h
  exact ⟨none, 0, rfl, NF.nil _ _, hb⟩
theorem Num2.yes {w w' : World} {r : List Nat × Int} {l : List Nat} {x : Int} {A : Option Addr} {c n : Nat} (h : r = (l, x)) (hn : l.length = n) (hf : NF w.heap.size w' A c l) (hb : Below w.heap.size w w') : Num2 w w' (.returned (.tuple #[.slice A n c, .int .i64 x])) r := by
  subst h hn
  exact ⟨A, c, rfl, hf, hb⟩
/-- Two numbers in new memory and an error. -/
def Num3 (w w' : World) (e : Ending) (r : List Nat × List Nat × Int) : Prop :=
  ∃ A c B d, e = .returned (.tuple #[.slice A r.1.length c, .slice B r.2.1.length d, .int .i64 r.2.2]) ∧ NF w.heap.size w' A c r.1 ∧ NF w.heap.size w' B d r.2.1 ∧ Apart A r.1 B r.2.1 ∧ Below w.heap.size w w'
theorem Num3.no {w w' : World} {r : List Nat × List Nat × Int} {x : Int} (h : r = ([], [], x)) (hb : Below w.heap.size w w') : Num3 w w' (.returned (.tuple #[.slice none 0 0, .slice none 0 0, .int .i64 x])) r := by
  subst h
  exact ⟨none, 0, none, 0, rfl, NF.nil _ _, NF.nil _ _, fun h => absurd rfl h, hb⟩
theorem Num3.yes {w w' : World} {r : List Nat × List Nat × Int} {l m : List Nat} {x : Int} {A B : Option Addr} {c d n k : Nat} (h : r = (l, m, x)) (hn : l.length = n) (hk : m.length = k) (hf : NF w.heap.size w' A c l) (hg : NF w.heap.size w' B d m) (ha : Apart A l B m) (hb : Below w.heap.size w w') :
    Num3 w w' (.returned (.tuple #[.slice A n c, .slice B k d, .int .i64 x])) r := by
  subst h hn hk
  exact ⟨A, c, B, d, rfl, hf, hg, ha, hb⟩
def Int2 (w w' : World) (e : Ending) (r : Int × Int) : Prop := e = .returned (.tuple #[.int .i64 r.1, .int .i64 r.2]) ∧ Below w.heap.size w w'
theorem Int2.mk' {w w' : World} {r : Int × Int} {x y : Int} (h : r = (x, y)) (hb : Below w.heap.size w w') : Int2 w w' (.returned (.tuple #[.int .i64 x, .int .i64 y])) r := by
  subst h
  exact ⟨rfl, hb⟩

theorem limS_yes {n : Nat} (h : (digs n).length ≤ 16) : limS n = (digs n, 0) := by rw [limS, if_pos h]
theorem limS_no {n : Nat} (h : ¬ (digs n).length ≤ 16) : limS n = ([], 4) := by rw [limS, if_neg h]
theorem bothB_ways (a b : List Nat) : (validB a = false ∧ bothB a b = false) ∨ (validB a = true ∧ validB b = false ∧ bothB a b = false) ∨ (validB a = true ∧ validB b = true ∧ bothB a b = true) := by
  unfold bothB
  cases h : validB a
  · exact .inl ⟨rfl, rfl⟩
  · cases h2 : validB b
    · exact .inr (.inl ⟨rfl, rfl, rfl⟩)
    · exact .inr (.inr ⟨rfl, rfl, rfl⟩)
theorem alloc_below (w : World) (o : Obj) : Below w.heap.size w (w.alloc o) := (Below.refl _ _).alloc (Nat.le_refl _) o

set_option maxHeartbeats 1000000 in
theorem Add_any (A : Option Addr) (ca : Nat) (a : List Nat) (Bd : Option Addr) (cb : Nat) (b : List Nat) (w : World) {na nb : Nat} (hna : a.length = na) (hnb : b.length = nb) (ha : NR w A ca a) (hb : NR w Bd cb b) :
    Calls Try.prog 51 #[.slice A na ca, .slice Bd nb cb] w fun e w' => Num2 w w' e (addS a b) := by
  have Ha := Lib.hid hna
  have Hb := Lib.hid hnb
  have Ra := Lib.hid ha
  have Rb := Lib.hid hb
  rcases bothB_ways a b with ⟨h1, h3⟩ | ⟨h1, h2, h3⟩ | ⟨h1, h2, h3⟩
  · have H1 := Lib.hid h1
    have H3 := Lib.hid h3
    have HS : Hid (addS a b = ([], 8)) := by unfold Hid addS; rw [h3]; rfl
    clear hna hnb ha hb h1 h3
    go_enter Try.func51, Try.ntmps51
    go_wp2_with fail
    refine (valid_two A ca a Bd cb b w Ha.out Hb.out Ra.out Rb.out _).mono ?_
    rintro e w1 ⟨rfl, rfl⟩
    rw [show (validB a && validB b) = false from H3.out]
    go_wp2_with fail
    go_ret2
    exact Num2.no HS.out (alloc_below _ _)
  · have H1 := Lib.hid h1
    have H2 := Lib.hid h2
    have H3 := Lib.hid h3
    have HS : Hid (addS a b = ([], 8)) := by unfold Hid addS; rw [h3]; rfl
    clear hna hnb ha hb h1 h3 h2
    go_enter Try.func51, Try.ntmps51
    go_wp2_with fail
    refine (valid_two A ca a Bd cb b w Ha.out Hb.out Ra.out Rb.out _).mono ?_
    rintro e w1 ⟨rfl, rfl⟩
    rw [show (validB a && validB b) = false from H3.out]
    go_wp2_with fail
    go_ret2
    exact Num2.no HS.out (alloc_below _ _)
  · have H1 := Lib.hid h1
    have H2 := Lib.hid h2
    have H3 := Lib.hid h3
    obtain ⟨v1, v2⟩ := validB_iff.1 h1
    obtain ⟨v3, v4⟩ := validB_iff.1 h2
    have L1 : na ≤ 16 := by omega
    have L2 : nb ≤ 16 := by omega
    have T1 := Lib.hid v2
    have T2 := Lib.hid v4
    have HS : Hid (addS a b = limS (val a + val b)) := by unfold Hid addS; rw [h3]; rfl
    clear hna hnb ha hb h1 h2 h3 v1 v2 v3 v4
    go_enter Try.func51, Try.ntmps51
    go_wp2_with fail
    refine (valid_two A ca a Bd cb b w Ha.out Hb.out Ra.out Rb.out _).mono ?_
    rintro e w1 ⟨rfl, rfl⟩
    rw [show (validB a && validB b) = true from H3.out]
    obtain ⟨W, hW⟩ : ∃ W : World, W = w.alloc (.cells #[.slice A na ca, .slice Bd nb cb] 41) := ⟨_, rfl⟩
    have bW : Below w.heap.size w W := by rw [hW]; exact alloc_below _ _
    rw [← hW]
    clear hW
    have Ra2 := Lib.hid (Ra.out.below bW)
    have Rb2 := Lib.hid (Rb.out.below bW)
    go_wp2_with fail
    refine (plus_any A ca a Bd cb b _ Ha.out Hb.out Ra2.out Rb2.out (by omega) (by omega)).mono ?_
    rintro e w2 ⟨X, cx, rfl, hx, hb2⟩
    go_wp2_with fail
    refine (limited_any _ _ _ _).mono ?_
    rintro e w3 ⟨rfl, rfl⟩
    by_cases h16 : (digs (val a + val b)).length ≤ 16
    · rw [limV_yes h16]
      have HL := Lib.hid (limS_yes h16)
      clear h16
      go_wp2_with fail
      go_ret2
      exact Num2.yes (HS.out.trans HL.out) rfl (hx.mono bW.size) (bW.trans (hb2.mono bW.size))
    · rw [limV_no (by omega)]
      have HL := Lib.hid (limS_no h16)
      clear h16
      go_wp2_with fail
      go_ret2
      exact Num2.no (HS.out.trans HL.out) (bW.trans (hb2.mono bW.size))

set_option maxHeartbeats 1000000 in
theorem Mul_any (A : Option Addr) (ca : Nat) (a : List Nat) (Bd : Option Addr) (cb : Nat) (b : List Nat) (w : World) {na nb : Nat} (hna : a.length = na) (hnb : b.length = nb) (ha : NR w A ca a) (hb : NR w Bd cb b) :
    Calls Try.prog 55 #[.slice A na ca, .slice Bd nb cb] w fun e w' => Num2 w w' e (mulS a b) := by
  have Ha := Lib.hid hna
  have Hb := Lib.hid hnb
  have Ra := Lib.hid ha
  have Rb := Lib.hid hb
  rcases bothB_ways a b with ⟨h1, h3⟩ | ⟨h1, h2, h3⟩ | ⟨h1, h2, h3⟩
  · have H1 := Lib.hid h1
    have H3 := Lib.hid h3
    have HS : Hid (mulS a b = ([], 8)) := by unfold Hid mulS; rw [h3]; rfl
    clear hna hnb ha hb h1 h3
    go_enter Try.func55, Try.ntmps55
    go_wp2_with fail
    refine (valid_two A ca a Bd cb b w Ha.out Hb.out Ra.out Rb.out _).mono ?_
    rintro e w1 ⟨rfl, rfl⟩
    rw [show (validB a && validB b) = false from H3.out]
    go_wp2_with fail
    go_ret2
    exact Num2.no HS.out (alloc_below _ _)
  · have H1 := Lib.hid h1
    have H2 := Lib.hid h2
    have H3 := Lib.hid h3
    have HS : Hid (mulS a b = ([], 8)) := by unfold Hid mulS; rw [h3]; rfl
    clear hna hnb ha hb h1 h3 h2
    go_enter Try.func55, Try.ntmps55
    go_wp2_with fail
    refine (valid_two A ca a Bd cb b w Ha.out Hb.out Ra.out Rb.out _).mono ?_
    rintro e w1 ⟨rfl, rfl⟩
    rw [show (validB a && validB b) = false from H3.out]
    go_wp2_with fail
    go_ret2
    exact Num2.no HS.out (alloc_below _ _)
  · have H1 := Lib.hid h1
    have H2 := Lib.hid h2
    have H3 := Lib.hid h3
    obtain ⟨v1, v2⟩ := validB_iff.1 h1
    obtain ⟨v3, v4⟩ := validB_iff.1 h2
    have L1 : na ≤ 16 := by omega
    have L2 : nb ≤ 16 := by omega
    have T1 := Lib.hid v2
    have T2 := Lib.hid v4
    have HS : Hid (mulS a b = limS (val a * val b)) := by unfold Hid mulS; rw [h3]; rfl
    clear hna hnb ha hb h1 h2 h3 v1 v2 v3 v4
    go_enter Try.func55, Try.ntmps55
    go_wp2_with fail
    refine (valid_two A ca a Bd cb b w Ha.out Hb.out Ra.out Rb.out _).mono ?_
    rintro e w1 ⟨rfl, rfl⟩
    rw [show (validB a && validB b) = true from H3.out]
    obtain ⟨W, hW⟩ : ∃ W : World, W = w.alloc (.cells #[.slice A na ca, .slice Bd nb cb] 41) := ⟨_, rfl⟩
    have bW : Below w.heap.size w W := by rw [hW]; exact alloc_below _ _
    rw [← hW]
    clear hW
    have Ra2 := Lib.hid (Ra.out.below bW)
    have Rb2 := Lib.hid (Rb.out.below bW)
    go_wp2_with fail
    refine (times_any A ca a Bd cb b _ Ha.out Hb.out Ra2.out Rb2.out (by omega) (by omega)).mono ?_
    rintro e w2 ⟨X, cx, rfl, hx, hb2⟩
    go_wp2_with fail
    refine (limited_any _ _ _ _).mono ?_
    rintro e w3 ⟨rfl, rfl⟩
    by_cases h16 : (digs (val a * val b)).length ≤ 16
    · rw [limV_yes h16]
      have HL := Lib.hid (limS_yes h16)
      clear h16
      go_wp2_with fail
      go_ret2
      exact Num2.yes (HS.out.trans HL.out) rfl (hx.mono bW.size) (bW.trans (hb2.mono bW.size))
    · rw [limV_no (by omega)]
      have HL := Lib.hid (limS_no h16)
      clear h16
      go_wp2_with fail
      go_ret2
      exact Num2.no (HS.out.trans HL.out) (bW.trans (hb2.mono bW.size))

set_option maxHeartbeats 1000000 in
theorem Sub_any (A : Option Addr) (ca : Nat) (a : List Nat) (Bd : Option Addr) (cb : Nat) (b : List Nat) (w : World) {na nb : Nat} (hna : a.length = na) (hnb : b.length = nb) (ha : NR w A ca a) (hb : NR w Bd cb b) :
    Calls Try.prog 53 #[.slice A na ca, .slice Bd nb cb] w fun e w' => Num2 w w' e (subS a b) := by
  have Ha := Lib.hid hna
  have Hb := Lib.hid hnb
  have Ra := Lib.hid ha
  have Rb := Lib.hid hb
  rcases bothB_ways a b with ⟨h1, h3⟩ | ⟨h1, h2, h3⟩ | ⟨h1, h2, h3⟩
  · have H1 := Lib.hid h1
    have H3 := Lib.hid h3
    have HS : Hid (subS a b = ([], 8)) := by unfold Hid subS; rw [h3]; rfl
    clear hna hnb ha hb h1 h3
    go_enter Try.func53, Try.ntmps53
    go_wp2_with fail
    refine (valid_two A ca a Bd cb b w Ha.out Hb.out Ra.out Rb.out _).mono ?_
    rintro e w1 ⟨rfl, rfl⟩
    rw [show (validB a && validB b) = false from H3.out]
    go_wp2_with fail
    go_ret2
    exact Num2.no HS.out (alloc_below _ _)
  · have H1 := Lib.hid h1
    have H2 := Lib.hid h2
    have H3 := Lib.hid h3
    have HS : Hid (subS a b = ([], 8)) := by unfold Hid subS; rw [h3]; rfl
    clear hna hnb ha hb h1 h3 h2
    go_enter Try.func53, Try.ntmps53
    go_wp2_with fail
    refine (valid_two A ca a Bd cb b w Ha.out Hb.out Ra.out Rb.out _).mono ?_
    rintro e w1 ⟨rfl, rfl⟩
    rw [show (validB a && validB b) = false from H3.out]
    go_wp2_with fail
    go_ret2
    exact Num2.no HS.out (alloc_below _ _)
  · have H1 := Lib.hid h1
    have H2 := Lib.hid h2
    have H3 := Lib.hid h3
    obtain ⟨v1, v2⟩ := validB_iff.1 h1
    obtain ⟨v3, v4⟩ := validB_iff.1 h2
    have L1 : na ≤ 16 := by omega
    have L2 : nb ≤ 16 := by omega
    have T1 := Lib.hid v2
    have T2 := Lib.hid v4
    clear hna hnb ha hb h1 h2 h3 v1 v2 v3 v4
    by_cases hlt : val a < val b
    · have HS : Hid (subS a b = ([], 11)) := by unfold Hid subS; rw [H3.out, if_pos rfl, if_pos hlt]
      have HC := Lib.hid (cmpN_lt hlt)
      clear hlt
      go_enter Try.func53, Try.ntmps53
      go_wp2_with fail
      refine (valid_two A ca a Bd cb b w Ha.out Hb.out Ra.out Rb.out _).mono ?_
      rintro e w1 ⟨rfl, rfl⟩
      rw [show (validB a && validB b) = true from H3.out]
      obtain ⟨W, hW⟩ : ∃ W : World, W = w.alloc (.cells #[.slice A na ca, .slice Bd nb cb] 41) := ⟨_, rfl⟩
      have bW : Below w.heap.size w W := by rw [hW]; exact alloc_below _ _
      rw [← hW]
      clear hW
      have Ra2 := Lib.hid (Ra.out.below bW)
      have Rb2 := Lib.hid (Rb.out.below bW)
      go_wp2_with fail
      refine (order_any A ca a Bd cb b _ Ha.out Hb.out Ra2.out Rb2.out T1.out T2.out).mono ?_
      rintro e w2 ⟨rfl, hb2⟩
      rw [HC.out]
      have bW2 : Below w.heap.size w w2 := bW.trans (hb2.mono bW.size)
      go_wp2_with fail
      go_ret2
      exact Num2.no HS.out bW2
    · have HS : Hid (subS a b = (digs (val a - val b), 0)) := by unfold Hid subS; rw [H3.out, if_pos rfl, if_neg hlt]
      have HLE : Hid (val b ≤ val a) := by unfold Hid; omega
      obtain ⟨z, hz, hz0⟩ : ∃ z : Int, cmpN (val a) (val b) = z ∧ decide (z < 0) = false := ⟨_, rfl, by rcases cmpN_cases (val a) (val b) with ⟨h, e⟩ | ⟨h, e⟩ | ⟨h, e⟩ <;> rw [e] <;> first | omega | rfl⟩
      have HC := Lib.hid hz
      clear hlt hz
      go_enter Try.func53, Try.ntmps53
      go_wp2_with fail
      refine (valid_two A ca a Bd cb b w Ha.out Hb.out Ra.out Rb.out _).mono ?_
      rintro e w1 ⟨rfl, rfl⟩
      rw [show (validB a && validB b) = true from H3.out]
      obtain ⟨W, hW⟩ : ∃ W : World, W = w.alloc (.cells #[.slice A na ca, .slice Bd nb cb] 41) := ⟨_, rfl⟩
      have bW : Below w.heap.size w W := by rw [hW]; exact alloc_below _ _
      rw [← hW]
      clear hW
      have Ra2 := Lib.hid (Ra.out.below bW)
      have Rb2 := Lib.hid (Rb.out.below bW)
      go_wp2_with fail
      refine (order_any A ca a Bd cb b _ Ha.out Hb.out Ra2.out Rb2.out T1.out T2.out).mono ?_
      rintro e w2 ⟨rfl, hb2⟩
      rw [HC.out]
      have bW2 : Below w.heap.size w w2 := bW.trans (hb2.mono bW.size)
      go_wp2_with fail
      refine (minus_any A ca a Bd cb b _ Ha.out Hb.out (Ra.out.below bW2) (Rb.out.below bW2) T2.out HLE.out).mono ?_
      rintro e w3 ⟨X, cx, rfl, hx, hb3⟩
      go_wp2_with fail
      go_ret2
      exact Num2.yes HS.out rfl (hx.mono bW2.size) (bW2.trans (hb3.mono bW2.size))

set_option maxHeartbeats 1000000 in
theorem Gcd_any (A : Option Addr) (ca : Nat) (a : List Nat) (Bd : Option Addr) (cb : Nat) (b : List Nat) (w : World) {na nb : Nat} (hna : a.length = na) (hnb : b.length = nb) (ha : NR w A ca a) (hb : NR w Bd cb b) :
    Calls Try.prog 59 #[.slice A na ca, .slice Bd nb cb] w fun e w' => Num2 w w' e (gcdS a b) := by
  have Ha := Lib.hid hna
  have Hb := Lib.hid hnb
  have Ra := Lib.hid ha
  have Rb := Lib.hid hb
  rcases bothB_ways a b with ⟨h1, h3⟩ | ⟨h1, h2, h3⟩ | ⟨h1, h2, h3⟩
  · have H1 := Lib.hid h1
    have H3 := Lib.hid h3
    have HS : Hid (gcdS a b = ([], 8)) := by unfold Hid gcdS; rw [h3]; rfl
    clear hna hnb ha hb h1 h3
    go_enter Try.func59, Try.ntmps59
    go_wp2_with fail
    refine (valid_two A ca a Bd cb b w Ha.out Hb.out Ra.out Rb.out _).mono ?_
    rintro e w1 ⟨rfl, rfl⟩
    rw [show (validB a && validB b) = false from H3.out]
    go_wp2_with fail
    go_ret2
    exact Num2.no HS.out (alloc_below _ _)
  · have H1 := Lib.hid h1
    have H2 := Lib.hid h2
    have H3 := Lib.hid h3
    have HS : Hid (gcdS a b = ([], 8)) := by unfold Hid gcdS; rw [h3]; rfl
    clear hna hnb ha hb h1 h3 h2
    go_enter Try.func59, Try.ntmps59
    go_wp2_with fail
    refine (valid_two A ca a Bd cb b w Ha.out Hb.out Ra.out Rb.out _).mono ?_
    rintro e w1 ⟨rfl, rfl⟩
    rw [show (validB a && validB b) = false from H3.out]
    go_wp2_with fail
    go_ret2
    exact Num2.no HS.out (alloc_below _ _)
  · have H1 := Lib.hid h1
    have H2 := Lib.hid h2
    have H3 := Lib.hid h3
    obtain ⟨v1, v2⟩ := validB_iff.1 h1
    obtain ⟨v3, v4⟩ := validB_iff.1 h2
    have L1 : na ≤ 16 := by omega
    have L2 : nb ≤ 16 := by omega
    have T1 := Lib.hid v2
    have T2 := Lib.hid v4
    have HS : Hid (gcdS a b = (digs (gcdN (val a) (val b)), 0)) := by unfold Hid gcdS; rw [h3]; rfl
    clear hna hnb ha hb h1 h2 h3 v1 v2 v3 v4
    go_enter Try.func59, Try.ntmps59
    go_wp2_with fail
    refine (valid_two A ca a Bd cb b w Ha.out Hb.out Ra.out Rb.out _).mono ?_
    rintro e w1 ⟨rfl, rfl⟩
    rw [show (validB a && validB b) = true from H3.out]
    obtain ⟨W, hW⟩ : ∃ W : World, W = w.alloc (.cells #[.slice A na ca, .slice Bd nb cb] 41) := ⟨_, rfl⟩
    have bW : Below w.heap.size w W := by rw [hW]; exact alloc_below _ _
    rw [← hW]
    clear hW
    have Ra2 := Lib.hid (Ra.out.below bW)
    have Rb2 := Lib.hid (Rb.out.below bW)
    go_wp2_with fail
    refine (common_any A ca a Bd cb b _ Ha.out Hb.out Ra2.out Rb2.out T1.out T2.out (by omega) (by omega)).mono ?_
    rintro e w3 ⟨X, cx, rfl, hx, hb3⟩
    go_wp2_with fail
    go_ret2
    exact Num2.yes HS.out rfl (hx.mono bW.size) (bW.trans (hb3.mono bW.size))

set_option maxHeartbeats 1000000 in
theorem Compare_any (A : Option Addr) (ca : Nat) (a : List Nat) (Bd : Option Addr) (cb : Nat) (b : List Nat) (w : World) {na nb : Nat} (hna : a.length = na) (hnb : b.length = nb) (ha : NR w A ca a) (hb : NR w Bd cb b) :
    Calls Try.prog 47 #[.slice A na ca, .slice Bd nb cb] w fun e w' => Int2 w w' e (cmpS a b) := by
  have Ha := Lib.hid hna
  have Hb := Lib.hid hnb
  have Ra := Lib.hid ha
  have Rb := Lib.hid hb
  rcases bothB_ways a b with ⟨h1, h3⟩ | ⟨h1, h2, h3⟩ | ⟨h1, h2, h3⟩
  · have H1 := Lib.hid h1
    have H3 := Lib.hid h3
    have HS : Hid (cmpS a b = (0, 8)) := by unfold Hid cmpS; rw [h3]; rfl
    clear hna hnb ha hb h1 h3
    go_enter Try.func47, Try.ntmps47
    go_wp2_with fail
    refine (valid_two A ca a Bd cb b w Ha.out Hb.out Ra.out Rb.out _).mono ?_
    rintro e w1 ⟨rfl, rfl⟩
    rw [show (validB a && validB b) = false from H3.out]
    go_wp2_with fail
    go_ret2
    exact Int2.mk' HS.out (alloc_below _ _)
  · have H1 := Lib.hid h1
    have H2 := Lib.hid h2
    have H3 := Lib.hid h3
    have HS : Hid (cmpS a b = (0, 8)) := by unfold Hid cmpS; rw [h3]; rfl
    clear hna hnb ha hb h1 h3 h2
    go_enter Try.func47, Try.ntmps47
    go_wp2_with fail
    refine (valid_two A ca a Bd cb b w Ha.out Hb.out Ra.out Rb.out _).mono ?_
    rintro e w1 ⟨rfl, rfl⟩
    rw [show (validB a && validB b) = false from H3.out]
    go_wp2_with fail
    go_ret2
    exact Int2.mk' HS.out (alloc_below _ _)
  · have H1 := Lib.hid h1
    have H2 := Lib.hid h2
    have H3 := Lib.hid h3
    obtain ⟨v1, v2⟩ := validB_iff.1 h1
    obtain ⟨v3, v4⟩ := validB_iff.1 h2
    have L1 : na ≤ 16 := by omega
    have L2 : nb ≤ 16 := by omega
    have T1 := Lib.hid v2
    have T2 := Lib.hid v4
    have HS : Hid (cmpS a b = (cmpN (val a) (val b), 0)) := by unfold Hid cmpS; rw [h3]; rfl
    clear hna hnb ha hb h1 h2 h3 v1 v2 v3 v4
    go_enter Try.func47, Try.ntmps47
    go_wp2_with fail
    refine (valid_two A ca a Bd cb b w Ha.out Hb.out Ra.out Rb.out _).mono ?_
    rintro e w1 ⟨rfl, rfl⟩
    rw [show (validB a && validB b) = true from H3.out]
    obtain ⟨W, hW⟩ : ∃ W : World, W = w.alloc (.cells #[.slice A na ca, .slice Bd nb cb] 41) := ⟨_, rfl⟩
    have bW : Below w.heap.size w W := by rw [hW]; exact alloc_below _ _
    rw [← hW]
    clear hW
    have Ra2 := Lib.hid (Ra.out.below bW)
    have Rb2 := Lib.hid (Rb.out.below bW)
    go_wp2_with fail
    refine (order_any A ca a Bd cb b _ Ha.out Hb.out Ra2.out Rb2.out T1.out T2.out).mono ?_
    rintro e w2 ⟨rfl, hb2⟩
    go_wp2_with fail
    go_ret2
    exact Int2.mk' HS.out (bW.trans (hb2.mono bW.size))

set_option maxHeartbeats 1000000 in
theorem Div_any (A : Option Addr) (ca : Nat) (a : List Nat) (Bd : Option Addr) (cb : Nat) (b : List Nat) (w : World) {na nb : Nat} (hna : a.length = na) (hnb : b.length = nb) (ha : NR w A ca a) (hb : NR w Bd cb b) :
    Calls Try.prog 57 #[.slice A na ca, .slice Bd nb cb] w fun e w' => Num3 w w' e (divS a b) := by
  have Ha := Lib.hid hna
  have Hb := Lib.hid hnb
  have Ra := Lib.hid ha
  have Rb := Lib.hid hb
  rcases bothB_ways a b with ⟨h1, h3⟩ | ⟨h1, h2, h3⟩ | ⟨h1, h2, h3⟩
  · have H1 := Lib.hid h1
    have H3 := Lib.hid h3
    have HS : Hid (divS a b = ([], [], 8)) := by unfold Hid divS; rw [h3]; rfl
    clear hna hnb ha hb h1 h3
    go_enter Try.func57, Try.ntmps57
    go_wp2_with fail
    refine (valid_two A ca a Bd cb b w Ha.out Hb.out Ra.out Rb.out _).mono ?_
    rintro e w1 ⟨rfl, rfl⟩
    rw [show (validB a && validB b) = false from H3.out]
    go_wp2_with fail
    go_ret3
    exact Num3.no HS.out (alloc_below _ _)
  · have H1 := Lib.hid h1
    have H2 := Lib.hid h2
    have H3 := Lib.hid h3
    have HS : Hid (divS a b = ([], [], 8)) := by unfold Hid divS; rw [h3]; rfl
    clear hna hnb ha hb h1 h3 h2
    go_enter Try.func57, Try.ntmps57
    go_wp2_with fail
    refine (valid_two A ca a Bd cb b w Ha.out Hb.out Ra.out Rb.out _).mono ?_
    rintro e w1 ⟨rfl, rfl⟩
    rw [show (validB a && validB b) = false from H3.out]
    go_wp2_with fail
    go_ret3
    exact Num3.no HS.out (alloc_below _ _)
  · have H1 := Lib.hid h1
    have H2 := Lib.hid h2
    have H3 := Lib.hid h3
    obtain ⟨v1, v2⟩ := validB_iff.1 h1
    obtain ⟨v3, v4⟩ := validB_iff.1 h2
    have L1 : na ≤ 16 := by omega
    have L2 : nb ≤ 16 := by omega
    have T1 := Lib.hid v2
    have T2 := Lib.hid v4
    clear hna hnb ha hb h1 h2 h3 v1 v2 v3 v4
    by_cases hne : b = []
    · have HS : Hid (divS a b = ([], [], 10)) := by unfold Hid divS; rw [H3.out, if_pos rfl, if_pos hne]
      have hz : ((nb : Int) == 0) = true := by have := Hb.out; rw [hne] at this; simp at this; simp; omega
      have hz' : (nb == 0) = true := by have := Hb.out; rw [hne] at this; simp at this; simp; omega
      clear hne
      go_enter Try.func57, Try.ntmps57
      go_wp2_with fail
      refine (valid_two A ca a Bd cb b w Ha.out Hb.out Ra.out Rb.out _).mono ?_
      rintro e w1 ⟨rfl, rfl⟩
      rw [show (validB a && validB b) = true from H3.out]
      obtain ⟨W, hW⟩ : ∃ W : World, W = w.alloc (.cells #[.slice A na ca, .slice Bd nb cb] 41) := ⟨_, rfl⟩
      have bW : Below w.heap.size w W := by rw [hW]; exact alloc_below _ _
      rw [← hW]
      clear hW
      have Ra2 := Lib.hid (Ra.out.below bW)
      have Rb2 := Lib.hid (Rb.out.below bW)
      go_wp2_with fail
      go_ret3
      exact Num3.no HS.out bW
    · have HS : Hid (divS a b = (digs (val a / val b), digs (val a % val b), 0)) := by unfold Hid divS; rw [H3.out, if_pos rfl, if_neg hne]
      have HN := Lib.hid hne
      have hz : ((nb : Int) == 0) = false := by have := Hb.out; have h : 0 < b.length := List.length_pos_iff.2 hne; simp; omega
      have hz' : (nb == 0) = false := by have := Hb.out; have h : 0 < b.length := List.length_pos_iff.2 hne; simp; omega
      clear hne
      go_enter Try.func57, Try.ntmps57
      go_wp2_with fail
      refine (valid_two A ca a Bd cb b w Ha.out Hb.out Ra.out Rb.out _).mono ?_
      rintro e w1 ⟨rfl, rfl⟩
      rw [show (validB a && validB b) = true from H3.out]
      obtain ⟨W, hW⟩ : ∃ W : World, W = w.alloc (.cells #[.slice A na ca, .slice Bd nb cb] 41) := ⟨_, rfl⟩
      have bW : Below w.heap.size w W := by rw [hW]; exact alloc_below _ _
      rw [← hW]
      clear hW
      have Ra2 := Lib.hid (Ra.out.below bW)
      have Rb2 := Lib.hid (Rb.out.below bW)
      go_wp2_with fail
      refine (parted_any A ca a Bd cb b _ Ha.out Hb.out Ra2.out Rb2.out T1.out T2.out HN.out (by omega) (by omega)).mono ?_
      rintro e w3 ⟨Q, cq, R, cr, rfl, hq, hr, hap, hb3⟩
      go_wp2_with fail
      go_ret3
      exact Num3.yes HS.out rfl rfl (hq.mono bW.size) (hr.mono bW.size) hap (bW.trans (hb3.mono bW.size))

set_option maxHeartbeats 1000000 in
theorem refAdd_any (A : Option Addr) (ca : Nat) (a : List Nat) (Bd : Option Addr) (cb : Nat) (b : List Nat) (w : World) {na nb : Nat} (hna : a.length = na) (hnb : b.length = nb) (ha : NR w A ca a) (hb : NR w Bd cb b) :
    Calls Try.prog 52 #[.slice A na ca, .slice Bd nb cb] w fun e w' => Num2 w w' e (addS a b) := by
  have Ha := Lib.hid hna
  have Hb := Lib.hid hnb
  have Ra := Lib.hid ha
  have Rb := Lib.hid hb
  rcases bothB_ways a b with ⟨h1, h3⟩ | ⟨h1, h2, h3⟩ | ⟨h1, h2, h3⟩
  · have H1 := Lib.hid h1
    have H3 := Lib.hid h3
    have HS : Hid (addS a b = ([], 8)) := by unfold Hid addS; rw [h3]; rfl
    clear hna hnb ha hb h1 h3
    go_enter Try.func52, Try.ntmps52
    go_wp2_with fail
    refine (refValid_any A ca a _ Ha.out Ra.out).mono ?_
    rintro e w1 ⟨rfl, rfl⟩
    rw [H1.out]
    go_wp2_with fail
    go_ret2
    exact Num2.no HS.out (Below.refl _ _)
  · have H1 := Lib.hid h1
    have H2 := Lib.hid h2
    have H3 := Lib.hid h3
    have HS : Hid (addS a b = ([], 8)) := by unfold Hid addS; rw [h3]; rfl
    clear hna hnb ha hb h1 h3 h2
    go_enter Try.func52, Try.ntmps52
    go_wp2_with fail
    refine (refValid_any A ca a _ Ha.out Ra.out).mono ?_
    rintro e w1 ⟨rfl, rfl⟩
    rw [H1.out]
    go_wp2_with fail
    refine (refValid_any Bd cb b _ Hb.out Rb.out).mono ?_
    rintro e w1 ⟨rfl, rfl⟩
    rw [H2.out]
    go_wp2_with fail
    go_ret2
    exact Num2.no HS.out (Below.refl _ _)
  · have H1 := Lib.hid h1
    have H2 := Lib.hid h2
    have H3 := Lib.hid h3
    obtain ⟨v1, v2⟩ := validB_iff.1 h1
    obtain ⟨v3, v4⟩ := validB_iff.1 h2
    have L1 : na ≤ 16 := by omega
    have L2 : nb ≤ 16 := by omega
    have T1 := Lib.hid v2
    have T2 := Lib.hid v4
    have HS : Hid (addS a b = limS (val a + val b)) := by unfold Hid addS; rw [h3]; rfl
    clear hna hnb ha hb h1 h2 h3 v1 v2 v3 v4
    go_enter Try.func52, Try.ntmps52
    go_wp2_with fail
    refine (refValid_any A ca a _ Ha.out Ra.out).mono ?_
    rintro e w1 ⟨rfl, rfl⟩
    rw [H1.out]
    go_wp2_with fail
    refine (refValid_any Bd cb b _ Hb.out Rb.out).mono ?_
    rintro e w1 ⟨rfl, rfl⟩
    rw [H2.out]
    go_wp2_with fail
    refine (refPlus_any A ca a Bd cb b _ Ha.out Hb.out Ra.out Rb.out (by omega) (by omega)).mono ?_
    rintro e w2 ⟨X, cx, rfl, hx, hb2⟩
    go_wp2_with fail
    refine (refLimited_any _ _ _ _).mono ?_
    rintro e w3 ⟨rfl, rfl⟩
    by_cases h16 : (digs (val a + val b)).length ≤ 16
    · rw [limV_yes h16]
      have HL := Lib.hid (limS_yes h16)
      clear h16
      go_wp2_with fail
      go_ret2
      exact Num2.yes (HS.out.trans HL.out) rfl hx hb2
    · rw [limV_no (by omega)]
      have HL := Lib.hid (limS_no h16)
      clear h16
      go_wp2_with fail
      go_ret2
      exact Num2.no (HS.out.trans HL.out) hb2

set_option maxHeartbeats 1000000 in
theorem refMul_any (A : Option Addr) (ca : Nat) (a : List Nat) (Bd : Option Addr) (cb : Nat) (b : List Nat) (w : World) {na nb : Nat} (hna : a.length = na) (hnb : b.length = nb) (ha : NR w A ca a) (hb : NR w Bd cb b) :
    Calls Try.prog 56 #[.slice A na ca, .slice Bd nb cb] w fun e w' => Num2 w w' e (mulS a b) := by
  have Ha := Lib.hid hna
  have Hb := Lib.hid hnb
  have Ra := Lib.hid ha
  have Rb := Lib.hid hb
  rcases bothB_ways a b with ⟨h1, h3⟩ | ⟨h1, h2, h3⟩ | ⟨h1, h2, h3⟩
  · have H1 := Lib.hid h1
    have H3 := Lib.hid h3
    have HS : Hid (mulS a b = ([], 8)) := by unfold Hid mulS; rw [h3]; rfl
    clear hna hnb ha hb h1 h3
    go_enter Try.func56, Try.ntmps56
    go_wp2_with fail
    refine (refValid_any A ca a _ Ha.out Ra.out).mono ?_
    rintro e w1 ⟨rfl, rfl⟩
    rw [H1.out]
    go_wp2_with fail
    go_ret2
    exact Num2.no HS.out (Below.refl _ _)
  · have H1 := Lib.hid h1
    have H2 := Lib.hid h2
    have H3 := Lib.hid h3
    have HS : Hid (mulS a b = ([], 8)) := by unfold Hid mulS; rw [h3]; rfl
    clear hna hnb ha hb h1 h3 h2
    go_enter Try.func56, Try.ntmps56
    go_wp2_with fail
    refine (refValid_any A ca a _ Ha.out Ra.out).mono ?_
    rintro e w1 ⟨rfl, rfl⟩
    rw [H1.out]
    go_wp2_with fail
    refine (refValid_any Bd cb b _ Hb.out Rb.out).mono ?_
    rintro e w1 ⟨rfl, rfl⟩
    rw [H2.out]
    go_wp2_with fail
    go_ret2
    exact Num2.no HS.out (Below.refl _ _)
  · have H1 := Lib.hid h1
    have H2 := Lib.hid h2
    have H3 := Lib.hid h3
    obtain ⟨v1, v2⟩ := validB_iff.1 h1
    obtain ⟨v3, v4⟩ := validB_iff.1 h2
    have L1 : na ≤ 16 := by omega
    have L2 : nb ≤ 16 := by omega
    have T1 := Lib.hid v2
    have T2 := Lib.hid v4
    have HS : Hid (mulS a b = limS (val a * val b)) := by unfold Hid mulS; rw [h3]; rfl
    clear hna hnb ha hb h1 h2 h3 v1 v2 v3 v4
    go_enter Try.func56, Try.ntmps56
    go_wp2_with fail
    refine (refValid_any A ca a _ Ha.out Ra.out).mono ?_
    rintro e w1 ⟨rfl, rfl⟩
    rw [H1.out]
    go_wp2_with fail
    refine (refValid_any Bd cb b _ Hb.out Rb.out).mono ?_
    rintro e w1 ⟨rfl, rfl⟩
    rw [H2.out]
    go_wp2_with fail
    refine (refTimes_any A ca a Bd cb b _ Ha.out Hb.out Ra.out Rb.out (by omega) (by omega)).mono ?_
    rintro e w2 ⟨X, cx, rfl, hx, hb2⟩
    go_wp2_with fail
    refine (refLimited_any _ _ _ _).mono ?_
    rintro e w3 ⟨rfl, rfl⟩
    by_cases h16 : (digs (val a * val b)).length ≤ 16
    · rw [limV_yes h16]
      have HL := Lib.hid (limS_yes h16)
      clear h16
      go_wp2_with fail
      go_ret2
      exact Num2.yes (HS.out.trans HL.out) rfl hx hb2
    · rw [limV_no (by omega)]
      have HL := Lib.hid (limS_no h16)
      clear h16
      go_wp2_with fail
      go_ret2
      exact Num2.no (HS.out.trans HL.out) hb2

set_option maxHeartbeats 1000000 in
theorem refSub_any (A : Option Addr) (ca : Nat) (a : List Nat) (Bd : Option Addr) (cb : Nat) (b : List Nat) (w : World) {na nb : Nat} (hna : a.length = na) (hnb : b.length = nb) (ha : NR w A ca a) (hb : NR w Bd cb b) :
    Calls Try.prog 54 #[.slice A na ca, .slice Bd nb cb] w fun e w' => Num2 w w' e (subS a b) := by
  have Ha := Lib.hid hna
  have Hb := Lib.hid hnb
  have Ra := Lib.hid ha
  have Rb := Lib.hid hb
  rcases bothB_ways a b with ⟨h1, h3⟩ | ⟨h1, h2, h3⟩ | ⟨h1, h2, h3⟩
  · have H1 := Lib.hid h1
    have H3 := Lib.hid h3
    have HS : Hid (subS a b = ([], 8)) := by unfold Hid subS; rw [h3]; rfl
    clear hna hnb ha hb h1 h3
    go_enter Try.func54, Try.ntmps54
    go_wp2_with fail
    refine (refValid_any A ca a _ Ha.out Ra.out).mono ?_
    rintro e w1 ⟨rfl, rfl⟩
    rw [H1.out]
    go_wp2_with fail
    go_ret2
    exact Num2.no HS.out (Below.refl _ _)
  · have H1 := Lib.hid h1
    have H2 := Lib.hid h2
    have H3 := Lib.hid h3
    have HS : Hid (subS a b = ([], 8)) := by unfold Hid subS; rw [h3]; rfl
    clear hna hnb ha hb h1 h3 h2
    go_enter Try.func54, Try.ntmps54
    go_wp2_with fail
    refine (refValid_any A ca a _ Ha.out Ra.out).mono ?_
    rintro e w1 ⟨rfl, rfl⟩
    rw [H1.out]
    go_wp2_with fail
    refine (refValid_any Bd cb b _ Hb.out Rb.out).mono ?_
    rintro e w1 ⟨rfl, rfl⟩
    rw [H2.out]
    go_wp2_with fail
    go_ret2
    exact Num2.no HS.out (Below.refl _ _)
  · have H1 := Lib.hid h1
    have H2 := Lib.hid h2
    have H3 := Lib.hid h3
    obtain ⟨v1, v2⟩ := validB_iff.1 h1
    obtain ⟨v3, v4⟩ := validB_iff.1 h2
    have L1 : na ≤ 16 := by omega
    have L2 : nb ≤ 16 := by omega
    have T1 := Lib.hid v2
    have T2 := Lib.hid v4
    clear hna hnb ha hb h1 h2 h3 v1 v2 v3 v4
    by_cases hlt : val a < val b
    · have HS : Hid (subS a b = ([], 11)) := by unfold Hid subS; rw [H3.out, if_pos rfl, if_pos hlt]
      have HC := Lib.hid (cmpN_lt hlt)
      clear hlt
      go_enter Try.func54, Try.ntmps54
      go_wp2_with fail
      refine (refValid_any A ca a _ Ha.out Ra.out).mono ?_
      rintro e w1 ⟨rfl, rfl⟩
      rw [H1.out]
      go_wp2_with fail
      refine (refValid_any Bd cb b _ Hb.out Rb.out).mono ?_
      rintro e w1 ⟨rfl, rfl⟩
      rw [H2.out]
      go_wp2_with fail
      refine (refOrder_any A ca a Bd cb b _ Ha.out Hb.out Ra.out Rb.out).mono ?_
      rintro e w2 ⟨rfl, rfl⟩
      rw [HC.out]
      go_wp2_with fail
      go_ret2
      exact Num2.no HS.out (Below.refl _ _)
    · have HS : Hid (subS a b = (digs (val a - val b), 0)) := by unfold Hid subS; rw [H3.out, if_pos rfl, if_neg hlt]
      have HLE : Hid (val b ≤ val a) := by unfold Hid; omega
      obtain ⟨z, hz, hz0⟩ : ∃ z : Int, cmpN (val a) (val b) = z ∧ decide (z < 0) = false := ⟨_, rfl, by rcases cmpN_cases (val a) (val b) with ⟨h, e⟩ | ⟨h, e⟩ | ⟨h, e⟩ <;> rw [e] <;> first | omega | rfl⟩
      have HC := Lib.hid hz
      clear hlt hz
      go_enter Try.func54, Try.ntmps54
      go_wp2_with fail
      refine (refValid_any A ca a _ Ha.out Ra.out).mono ?_
      rintro e w1 ⟨rfl, rfl⟩
      rw [H1.out]
      go_wp2_with fail
      refine (refValid_any Bd cb b _ Hb.out Rb.out).mono ?_
      rintro e w1 ⟨rfl, rfl⟩
      rw [H2.out]
      go_wp2_with fail
      refine (refOrder_any A ca a Bd cb b _ Ha.out Hb.out Ra.out Rb.out).mono ?_
      rintro e w2 ⟨rfl, rfl⟩
      rw [HC.out]
      go_wp2_with fail
      refine (refMinus_any A ca a Bd cb b _ Ha.out Hb.out Ra.out Rb.out T2.out HLE.out).mono ?_
      rintro e w3 ⟨X, cx, rfl, hx, hb3⟩
      go_wp2_with fail
      go_ret2
      exact Num2.yes HS.out rfl hx hb3

set_option maxHeartbeats 1000000 in
theorem refGcd_any (A : Option Addr) (ca : Nat) (a : List Nat) (Bd : Option Addr) (cb : Nat) (b : List Nat) (w : World) {na nb : Nat} (hna : a.length = na) (hnb : b.length = nb) (ha : NR w A ca a) (hb : NR w Bd cb b) :
    Calls Try.prog 60 #[.slice A na ca, .slice Bd nb cb] w fun e w' => Num2 w w' e (gcdS a b) := by
  have Ha := Lib.hid hna
  have Hb := Lib.hid hnb
  have Ra := Lib.hid ha
  have Rb := Lib.hid hb
  rcases bothB_ways a b with ⟨h1, h3⟩ | ⟨h1, h2, h3⟩ | ⟨h1, h2, h3⟩
  · have H1 := Lib.hid h1
    have H3 := Lib.hid h3
    have HS : Hid (gcdS a b = ([], 8)) := by unfold Hid gcdS; rw [h3]; rfl
    clear hna hnb ha hb h1 h3
    go_enter Try.func60, Try.ntmps60
    go_wp2_with fail
    refine (refValid_any A ca a _ Ha.out Ra.out).mono ?_
    rintro e w1 ⟨rfl, rfl⟩
    rw [H1.out]
    go_wp2_with fail
    go_ret2
    exact Num2.no HS.out (Below.refl _ _)
  · have H1 := Lib.hid h1
    have H2 := Lib.hid h2
    have H3 := Lib.hid h3
    have HS : Hid (gcdS a b = ([], 8)) := by unfold Hid gcdS; rw [h3]; rfl
    clear hna hnb ha hb h1 h3 h2
    go_enter Try.func60, Try.ntmps60
    go_wp2_with fail
    refine (refValid_any A ca a _ Ha.out Ra.out).mono ?_
    rintro e w1 ⟨rfl, rfl⟩
    rw [H1.out]
    go_wp2_with fail
    refine (refValid_any Bd cb b _ Hb.out Rb.out).mono ?_
    rintro e w1 ⟨rfl, rfl⟩
    rw [H2.out]
    go_wp2_with fail
    go_ret2
    exact Num2.no HS.out (Below.refl _ _)
  · have H1 := Lib.hid h1
    have H2 := Lib.hid h2
    have H3 := Lib.hid h3
    obtain ⟨v1, v2⟩ := validB_iff.1 h1
    obtain ⟨v3, v4⟩ := validB_iff.1 h2
    have L1 : na ≤ 16 := by omega
    have L2 : nb ≤ 16 := by omega
    have T1 := Lib.hid v2
    have T2 := Lib.hid v4
    have HS : Hid (gcdS a b = (digs (gcdN (val a) (val b)), 0)) := by unfold Hid gcdS; rw [h3]; rfl
    clear hna hnb ha hb h1 h2 h3 v1 v2 v3 v4
    go_enter Try.func60, Try.ntmps60
    go_wp2_with fail
    refine (refValid_any A ca a _ Ha.out Ra.out).mono ?_
    rintro e w1 ⟨rfl, rfl⟩
    rw [H1.out]
    go_wp2_with fail
    refine (refValid_any Bd cb b _ Hb.out Rb.out).mono ?_
    rintro e w1 ⟨rfl, rfl⟩
    rw [H2.out]
    go_wp2_with fail
    refine (refCommon_any A ca a Bd cb b _ Ha.out Hb.out Ra.out Rb.out T1.out T2.out (by omega) (by omega)).mono ?_
    rintro e w3 ⟨X, cx, rfl, hx, hb3⟩
    go_wp2_with fail
    go_ret2
    exact Num2.yes HS.out rfl hx hb3

set_option maxHeartbeats 1000000 in
theorem refCompare_any (A : Option Addr) (ca : Nat) (a : List Nat) (Bd : Option Addr) (cb : Nat) (b : List Nat) (w : World) {na nb : Nat} (hna : a.length = na) (hnb : b.length = nb) (ha : NR w A ca a) (hb : NR w Bd cb b) :
    Calls Try.prog 48 #[.slice A na ca, .slice Bd nb cb] w fun e w' => Int2 w w' e (cmpS a b) := by
  have Ha := Lib.hid hna
  have Hb := Lib.hid hnb
  have Ra := Lib.hid ha
  have Rb := Lib.hid hb
  rcases bothB_ways a b with ⟨h1, h3⟩ | ⟨h1, h2, h3⟩ | ⟨h1, h2, h3⟩
  · have H1 := Lib.hid h1
    have H3 := Lib.hid h3
    have HS : Hid (cmpS a b = (0, 8)) := by unfold Hid cmpS; rw [h3]; rfl
    clear hna hnb ha hb h1 h3
    go_enter Try.func48, Try.ntmps48
    go_wp2_with fail
    refine (refValid_any A ca a _ Ha.out Ra.out).mono ?_
    rintro e w1 ⟨rfl, rfl⟩
    rw [H1.out]
    go_wp2_with fail
    go_ret2
    exact Int2.mk' HS.out (Below.refl _ _)
  · have H1 := Lib.hid h1
    have H2 := Lib.hid h2
    have H3 := Lib.hid h3
    have HS : Hid (cmpS a b = (0, 8)) := by unfold Hid cmpS; rw [h3]; rfl
    clear hna hnb ha hb h1 h3 h2
    go_enter Try.func48, Try.ntmps48
    go_wp2_with fail
    refine (refValid_any A ca a _ Ha.out Ra.out).mono ?_
    rintro e w1 ⟨rfl, rfl⟩
    rw [H1.out]
    go_wp2_with fail
    refine (refValid_any Bd cb b _ Hb.out Rb.out).mono ?_
    rintro e w1 ⟨rfl, rfl⟩
    rw [H2.out]
    go_wp2_with fail
    go_ret2
    exact Int2.mk' HS.out (Below.refl _ _)
  · have H1 := Lib.hid h1
    have H2 := Lib.hid h2
    have H3 := Lib.hid h3
    obtain ⟨v1, v2⟩ := validB_iff.1 h1
    obtain ⟨v3, v4⟩ := validB_iff.1 h2
    have L1 : na ≤ 16 := by omega
    have L2 : nb ≤ 16 := by omega
    have T1 := Lib.hid v2
    have T2 := Lib.hid v4
    have HS : Hid (cmpS a b = (cmpN (val a) (val b), 0)) := by unfold Hid cmpS; rw [h3]; rfl
    clear hna hnb ha hb h1 h2 h3 v1 v2 v3 v4
    go_enter Try.func48, Try.ntmps48
    go_wp2_with fail
    refine (refValid_any A ca a _ Ha.out Ra.out).mono ?_
    rintro e w1 ⟨rfl, rfl⟩
    rw [H1.out]
    go_wp2_with fail
    refine (refValid_any Bd cb b _ Hb.out Rb.out).mono ?_
    rintro e w1 ⟨rfl, rfl⟩
    rw [H2.out]
    go_wp2_with fail
    refine (refOrder_any A ca a Bd cb b _ Ha.out Hb.out Ra.out Rb.out).mono ?_
    rintro e w2 ⟨rfl, rfl⟩
    go_wp2_with fail
    go_ret2
    exact Int2.mk' HS.out (Below.refl _ _)

set_option maxHeartbeats 1000000 in
theorem refDiv_any (A : Option Addr) (ca : Nat) (a : List Nat) (Bd : Option Addr) (cb : Nat) (b : List Nat) (w : World) {na nb : Nat} (hna : a.length = na) (hnb : b.length = nb) (ha : NR w A ca a) (hb : NR w Bd cb b) :
    Calls Try.prog 58 #[.slice A na ca, .slice Bd nb cb] w fun e w' => Num3 w w' e (divS a b) := by
  have Ha := Lib.hid hna
  have Hb := Lib.hid hnb
  have Ra := Lib.hid ha
  have Rb := Lib.hid hb
  rcases bothB_ways a b with ⟨h1, h3⟩ | ⟨h1, h2, h3⟩ | ⟨h1, h2, h3⟩
  · have H1 := Lib.hid h1
    have H3 := Lib.hid h3
    have HS : Hid (divS a b = ([], [], 8)) := by unfold Hid divS; rw [h3]; rfl
    clear hna hnb ha hb h1 h3
    go_enter Try.func58, Try.ntmps58
    go_wp2_with fail
    refine (refValid_any A ca a _ Ha.out Ra.out).mono ?_
    rintro e w1 ⟨rfl, rfl⟩
    rw [H1.out]
    go_wp2_with fail
    go_ret3
    exact Num3.no HS.out (Below.refl _ _)
  · have H1 := Lib.hid h1
    have H2 := Lib.hid h2
    have H3 := Lib.hid h3
    have HS : Hid (divS a b = ([], [], 8)) := by unfold Hid divS; rw [h3]; rfl
    clear hna hnb ha hb h1 h3 h2
    go_enter Try.func58, Try.ntmps58
    go_wp2_with fail
    refine (refValid_any A ca a _ Ha.out Ra.out).mono ?_
    rintro e w1 ⟨rfl, rfl⟩
    rw [H1.out]
    go_wp2_with fail
    refine (refValid_any Bd cb b _ Hb.out Rb.out).mono ?_
    rintro e w1 ⟨rfl, rfl⟩
    rw [H2.out]
    go_wp2_with fail
    go_ret3
    exact Num3.no HS.out (Below.refl _ _)
  · have H1 := Lib.hid h1
    have H2 := Lib.hid h2
    have H3 := Lib.hid h3
    obtain ⟨v1, v2⟩ := validB_iff.1 h1
    obtain ⟨v3, v4⟩ := validB_iff.1 h2
    have L1 : na ≤ 16 := by omega
    have L2 : nb ≤ 16 := by omega
    have T1 := Lib.hid v2
    have T2 := Lib.hid v4
    clear hna hnb ha hb h1 h2 h3 v1 v2 v3 v4
    by_cases hne : b = []
    · have HS : Hid (divS a b = ([], [], 10)) := by unfold Hid divS; rw [H3.out, if_pos rfl, if_pos hne]
      have hz : ((nb : Int) == 0) = true := by have := Hb.out; rw [hne] at this; simp at this; simp; omega
      have hz' : (nb == 0) = true := by have := Hb.out; rw [hne] at this; simp at this; simp; omega
      clear hne
      go_enter Try.func58, Try.ntmps58
      go_wp2_with fail
      refine (refValid_any A ca a _ Ha.out Ra.out).mono ?_
      rintro e w1 ⟨rfl, rfl⟩
      rw [H1.out]
      go_wp2_with fail
      refine (refValid_any Bd cb b _ Hb.out Rb.out).mono ?_
      rintro e w1 ⟨rfl, rfl⟩
      rw [H2.out]
      go_wp2_with fail
      go_ret3
      exact Num3.no HS.out (Below.refl _ _)
    · have HS : Hid (divS a b = (digs (val a / val b), digs (val a % val b), 0)) := by unfold Hid divS; rw [H3.out, if_pos rfl, if_neg hne]
      have HN := Lib.hid hne
      have hz : ((nb : Int) == 0) = false := by have := Hb.out; have h : 0 < b.length := List.length_pos_iff.2 hne; simp; omega
      have hz' : (nb == 0) = false := by have := Hb.out; have h : 0 < b.length := List.length_pos_iff.2 hne; simp; omega
      clear hne
      go_enter Try.func58, Try.ntmps58
      go_wp2_with fail
      refine (refValid_any A ca a _ Ha.out Ra.out).mono ?_
      rintro e w1 ⟨rfl, rfl⟩
      rw [H1.out]
      go_wp2_with fail
      refine (refValid_any Bd cb b _ Hb.out Rb.out).mono ?_
      rintro e w1 ⟨rfl, rfl⟩
      rw [H2.out]
      go_wp2_with fail
      refine (refParted_any A ca a Bd cb b _ Ha.out Hb.out Ra.out Rb.out T2.out HN.out (by omega) (by omega)).mono ?_
      rintro e w3 ⟨Q, cq, R, cr, rfl, hq, hr, hap, hb3⟩
      go_wp2_with fail
      go_ret3
      exact Num3.yes HS.out rfl rfl hq hr hap hb3

set_option maxHeartbeats 400000 in
theorem Check_any (A : Option Addr) (ca : Nat) (a : List Nat) (w : World) {na : Nat} (hna : a.length = na) (ha : NR w A ca a) :
    Calls Try.prog 49 #[.slice A na ca] w fun e w' => e = .returned (.int .i64 (chkS a)) ∧ Below w.heap.size w w' := by
  have Ha := Lib.hid hna
  have Ra := Lib.hid ha
  rcases (by cases validB a <;> simp : validB a = true ∨ validB a = false) with h | h
  all_goals
    have HV := Lib.hid h
    have HC : Hid (chkS a = if validB a = true then 0 else 8) := rfl
    rw [h] at HC
    clear hna ha h
    go_enter Try.func49, Try.ntmps49
    go_wp2_with fail
    refine (valid_one A ca a w Ha.out Ra.out _).mono ?_
    rintro e w1 ⟨rfl, rfl⟩
    rw [HV.out]
    go_wp2_with fail
    go_ret
    exact ⟨by rw [HC.out]; rfl, alloc_below _ _⟩
set_option maxHeartbeats 400000 in
theorem refCheck_any (A : Option Addr) (ca : Nat) (a : List Nat) (w : World) {na : Nat} (hna : a.length = na) (ha : NR w A ca a) :
    Calls Try.prog 50 #[.slice A na ca] w fun e w' => e = .returned (.int .i64 (chkS a)) ∧ Below w.heap.size w w' := by
  have Ha := Lib.hid hna
  have Ra := Lib.hid ha
  rcases (by cases validB a <;> simp : validB a = true ∨ validB a = false) with h | h
  all_goals
    have HV := Lib.hid h
    have HC : Hid (chkS a = if validB a = true then 0 else 8) := rfl
    rw [h] at HC
    clear hna ha h
    go_enter Try.func50, Try.ntmps50
    go_wp2_with fail
    refine (refValid_any A ca a w Ha.out Ra.out).mono ?_
    rintro e w1 ⟨rfl, rfl⟩
    rw [HV.out]
    go_wp2_with fail
    go_ret
    exact ⟨by rw [HC.out]; rfl, Below.refl _ _⟩

end Go.Proofs.Ytphaojdfeojpeaa