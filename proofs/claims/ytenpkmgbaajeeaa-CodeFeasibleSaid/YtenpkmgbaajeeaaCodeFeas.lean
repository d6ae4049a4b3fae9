/-
  Whether a copy is feasible: the plain words; the program.
-/
import Derived.Test.YtenpkmgbaajeeaaCodeWords
import Derived.Shelf.Abstract
namespace Go.Proofs.Ytenpkmgbaajeeaa
open Go.RowKit Go.Shelf
set_option linter.unusedVariables false

theorem below_drewN {B : Nat} {a w : World} (h : Below B a w) (n : Nat) : Below B a (w.drewN n) := ⟨h.os, h.tape, h.output, h.size, h.block⟩
def hd (ls : List (List UInt8)) : List UInt8 := ls.getD 0 []
def okWords (ls : List (List UInt8)) : Bool := decide (1 ≤ ls.length) && (decide (ls.length ≤ 64) && (decide ((hd ls).length ≤ 1024) && !anyI ls.length (fun i => !wordB (ls.getD i []) (hd ls).length)))
/-- In the place i not all words have the first word's symbol. -/
def oddB (ls : List (List UInt8)) (i : Nat) : Bool := anyI ls.length (fun j => bt (ls.getD j []) i != bt (hd ls) i)
def isFeas (ls : List (List UInt8)) (y : List UInt8) : Bool := !anyI y.length (fun i => bt y i != bt (hd ls) i && !oddB ls i)
def feasS (ls : List (List UInt8)) (y : List UInt8) : Bool × Int := if okWords ls = true then (if copyB y (hd ls).length = true then (isFeas ls y, 0) else (false, 71)) else (false, 2)
theorem okWords_parts {ls : List (List UInt8)} (h : okWords ls = true) : 1 ≤ ls.length ∧ ls.length ≤ 64 ∧ (hd ls).length ≤ 1024 ∧ ∀ i, i < ls.length → wordB (ls.getD i []) (hd ls).length = true := by
  simp only [okWords, Bool.and_eq_true, decide_eq_true_eq, Bool.not_eq_true'] at h
  obtain ⟨h1, h2, h3, h4⟩ := h
  refine ⟨h1, h2, h3, fun i hi => ?_⟩
  cases hw : wordB (ls.getD i []) (hd ls).length
  · have : anyI ls.length (fun i => !wordB (ls.getD i []) (hd ls).length) = true := anyI_iff.2 ⟨i, hi, by rw [hw]; rfl⟩
    rw [this] at h4; cases h4
  · rfl
theorem wordB_len {l : List UInt8} {n : Nat} (h : wordB l n = true) : l.length = n := by
  simp only [wordB, Bool.and_eq_true, decide_eq_true_eq] at h
  exact h.1
theorem row_l {rs : List BRow} {i : Nat} {r : BRow} (h : rs[i]? = some r) : (rs.map BRow.l).getD i [] = r.l := by simp [List.getD, h]
theorem RR.at_ {w : World} {A : Option Addr} {c : Nat} {rs : List BRow} (h : RR w A c rs) {i : Nat} (hi : i < rs.length) :
    ∃ b off r, A = some ⟨b, off, none⟩ ∧ b < w.heap.size ∧ rs[i]? = some r ∧ w.cell? ⟨b, off + i, none⟩ = some (.slice r.A r.l.length r.c) ∧ BR w r.A r.c r.l := by
  obtain ⟨b, off, e, hb, v, hv, hc⟩ := Rd.at1 h.1 hi
  have hr : rs[i]? = some rs[i] := List.getElem?_eq_getElem hi
  rw [List.getElem?_map, hr] at hv
  injection hv with hv
  subst hv
  exact ⟨b, off, rs[i], e, hb, hr, hc, h.2 _ (List.getElem_mem hi)⟩
theorem RR.below {w w' : World} {A : Option Addr} {c : Nat} {rs : List BRow} (h : RR w A c rs) (hb : Below w.heap.size w w') : RR w' A c rs := ⟨h.1.below hb, fun r hr => (h.2 r hr).below hb⟩

set_option maxHeartbeats 400000 in
theorem Feasible1_any (r : BRow) (n0 g : Nat) (w : World) (h : BR w r.A r.c r.l) (hn : n0 ≤ 140737488351232) (hg : w.cell? ⟨g, 0, none⟩ = some (.int .i64 (n0 : Int))) :
    Calls Try.prog 22 #[r.v, .pointer (some ⟨g, 0, none⟩)] w fun e w' => e = .returned (.bool (!wordB r.l n0)) ∧ Below w.heap.size w w' := by
  have H := Lib.hid h
  obtain ⟨A, c, l⟩ := r
  have HW := Lib.hid (isWord_any A c l n0 w rfl H.out hn)
  clear h
  show Calls Try.prog 22 #[.slice A l.length c, .pointer (some ⟨g, 0, none⟩)] w _
  go_enter Try.func22, Try.ntmps22
  go_wp2_with (go_at_call 23; refine HW.out.mono ?_; rintro e w1 ⟨rfl, hb1⟩)
  go_ret
  exact ⟨rfl, hb1⟩
set_option maxHeartbeats 400000 in
theorem Feasible2_any (A : Option Addr) (c : Nat) (rs : List BRow) (r : BRow) (k g g' : Nat) (w : World) {n : Nat} (hn : rs.length = n) (h : RR w A c rs) (hr : BR w r.A r.c r.l) (hk : k < r.l.length) (hk0 : k < (hd (rs.map BRow.l)).length) (h0 : 0 < rs.length)
    (hg : w.cell? ⟨g, 0, none⟩ = some (.int .i64 (k : Int))) (hg' : w.cell? ⟨g', 0, none⟩ = some (.slice A n c)) :
    Calls Try.prog 25 #[r.v, .pointer (some ⟨g, 0, none⟩), .pointer (some ⟨g', 0, none⟩)] w fun e w' => e = .returned (.bool (bt r.l k != bt (hd (rs.map BRow.l)) k)) ∧ Below w.heap.size w w' := by
  obtain ⟨b, off, r0, rfl, hb, hr0, hc0, hR0⟩ := h.at_ h0
  have e0 : hd (rs.map BRow.l) = r0.l := row_l hr0
  rw [e0] at hk0 ⊢
  obtain ⟨b1, o1, e1, hb1, hc1⟩ := hr.at_ hk
  obtain ⟨b2, o2, e2, hb2, hc2⟩ := hR0.at_ hk0
  obtain ⟨A1, c1, l⟩ := r
  obtain ⟨A2, c2, l0⟩ := r0
  dsimp only at e1 e2 hc1 hc2 hk hk0 hc0 ⊢
  subst e1 e2 hn
  rw [Nat.add_zero] at hc0
  have hl1 : (l.length : Int) ≤ 140737488351232 := by have := hr.len; simp only at this; omega
  have hl2 : (l0.length : Int) ≤ 140737488351232 := by have := hR0.len; simp only at this; omega
  have k1 : (k : Int) < l.length := by omega
  have k2 : (k : Int) < l0.length := by omega
  have k0 : (0 : Int) ≤ k := by omega
  have h00 : (0 : Int) < rs.length := by omega
  have x1 := bt_le l k
  have x2 := bt_le l0 k
  generalize bt l k = x at *
  generalize bt l0 k = y at *
  clear h hr hr0 hR0 e0
  show Calls Try.prog 25 #[.slice (some ⟨b1, o1, none⟩) l.length c1, .pointer (some ⟨g, 0, none⟩), .pointer (some ⟨g', 0, none⟩)] w _
  go_enter Try.func25, Try.ntmps25
  go_wp2_with fail
  go_quiet (fail)
  go_wp2_with fail
  go_ret
  exact ⟨ret_bool' (by rw [Bool.eq_iff_iff]; simp; omega), below_drewN (Below.refl _ _) _⟩

theorem okWords_no {ls : List (List UInt8)} {y : List UInt8} (h : okWords ls = false) : feasS ls y = (false, 2) := by rw [feasS, h]; rfl
theorem feasS_copy {ls : List (List UInt8)} {y : List UInt8} (h : okWords ls = true) (h2 : copyB y (hd ls).length = false) : feasS ls y = (false, 71) := by rw [feasS, h, h2]; rfl
theorem feasS_yes {ls : List (List UInt8)} {y : List UInt8} (h : okWords ls = true) (h2 : copyB y (hd ls).length = true) : feasS ls y = (isFeas ls y, 0) := by rw [feasS, h, h2]; rfl
theorem copyB_len {l : List UInt8} {n : Nat} (h : copyB l n = true) : l.length = n := by
  simp only [copyB, Bool.and_eq_true, decide_eq_true_eq] at h
  exact h.1
theorem alloc_bel (w : World) (o : Obj) : Below w.heap.size w (w.alloc o) := (Below.refl _ _).alloc (Nat.le_refl _) o
theorem isFeas_no {ls : List (List UInt8)} {y : List UInt8} {k : Nat} (hk : k < y.length) (h1 : bt y k ≠ bt (hd ls) k) (h2 : oddB ls k = false) : isFeas ls y = false := by
  have : anyI y.length (fun i => bt y i != bt (hd ls) i && !oddB ls i) = true := anyI_iff.2 ⟨k, hk, by rw [h2]; simpa using h1⟩
  rw [isFeas, this]; rfl
theorem isFeas_yes {ls : List (List UInt8)} {y : List UInt8} (h : ∀ k, k < y.length → bt y k = bt (hd ls) k ∨ oddB ls k = true) : isFeas ls y = true := by
  have : anyI y.length (fun i => bt y i != bt (hd ls) i && !oddB ls i) = false := by
    cases ha : anyI y.length (fun i => bt y i != bt (hd ls) i && !oddB ls i)
    · rfl
    · obtain ⟨i, hi, hp⟩ := anyI_iff.1 ha
      rcases h i hi with h1 | h1
      · rw [h1] at hp; simp at hp
      · rw [h1] at hp; simp at hp
  rw [isFeas, this]; rfl

set_option maxHeartbeats 2000000 in
set_option maxRecDepth 100000 in
theorem Feasible_any (A : Option Addr) (c : Nat) (rs : List BRow) (Y : Option Addr) (d : Nat) (y : List UInt8) (w : World) {n m : Nat} (hn : rs.length = n) (hm : y.length = m) (h : RR w A c rs) (hy : BR w Y d y) :
    Calls Try.prog 6 #[.slice A n c, .slice Y m d] w fun e w' => e = .returned (.tuple #[.bool (feasS (rs.map BRow.l) y).1, .int .i64 (feasS (rs.map BRow.l) y).2]) ∧ Below w.heap.size w w' := by
  have hlen : (n : Int) ≤ 140737488351232 := by have := h.1.len; omega
  have HN := Lib.hid hn
  have HM := Lib.hid hm
  have H := Lib.hid h
  have HY := Lib.hid hy
  obtain ⟨W1, hW1⟩ : ∃ W : World, W = w.alloc (.cells #[.slice A n c] 22) := ⟨_, rfl⟩
  have b1 : Below w.heap.size w W1 := by rw [hW1]; exact alloc_bel _ _
  have HZ1 : Hid (W1.heap.size = w.heap.size + 1) := by unfold Hid; rw [hW1]; simp
  have HW1 := Lib.hid hW1
  by_cases h0 : n = 0
  · have HS : Hid (feasS (rs.map BRow.l) y = (false, 2)) := okWords_no (by
      have : rs = [] := List.eq_nil_of_length_eq_zero (by omega)
      rw [this]; rfl)
    rw [HS.out]
    subst h0
    clear hn hm h hy hW1
    go_enter Try.func6, Try.ntmps6
    go_wp2_with fail
    go_ret2
    exact ⟨rfl, alloc_bel _ _⟩
  · have t0 : decide ((n : Int) < 1) = false := by simp; omega
    have t0' : decide (n < 1) = false := by simp; omega
    by_cases h64 : 64 < n
    · have t1 : decide ((64 : Int) < n) = true := by simp; omega
      have t1' : decide (64 < n) = true := by simp; omega
      have HS : Hid (feasS (rs.map BRow.l) y = (false, 2)) := okWords_no (by simp [okWords, hn]; omega)
      rw [HS.out]
      clear hn hm h hy hW1 h0 h64
      go_enter Try.func6, Try.ntmps6
      go_wp2_with fail
      go_ret2
      exact ⟨rfl, alloc_bel _ _⟩
    · have t1 : decide ((64 : Int) < n) = false := by simp; omega
      have t1' : decide (64 < n) = false := by simp; omega
      have hn0 : (0 : Int) < n := by omega
      have hn0' : 0 < n := by omega
      obtain ⟨b, off, r0, rfl, hb, hr0, hc0, hR0⟩ := h.at_ (i := 0) (by omega)
      rw [Nat.add_zero] at hc0
      have e0 : Hid (hd (rs.map BRow.l) = r0.l) := row_l hr0
      have hl0 : (r0.l.length : Int) ≤ 140737488351232 := by have := hR0.len; omega
      have c1 : W1.cell? ⟨b, off, none⟩ = some (.slice r0.A r0.l.length r0.c) := (b1.cell (p := ⟨b, off, none⟩) hb).trans hc0
      have p1 : W1.cell? ⟨w.heap.size, 0, none⟩ = some (.slice (some ⟨b, off, none⟩) n c) := by rw [hW1]; simp
      obtain ⟨l0, hl⟩ : ∃ l0, r0.l.length = l0 := ⟨_, rfl⟩
      have HL := Lib.hid hl
      rw [hl] at hc0 hl0 c1
      by_cases hbig : 1024 < l0
      · have t2 : decide ((1024 : Int) < l0) = true := by simp; omega
        have t2' : decide (1024 < l0) = true := by simp; omega
        have HS : Hid (feasS (rs.map BRow.l) y = (false, 2)) := okWords_no (by simp [okWords, hn, e0.out, hl]; omega)
        rw [HS.out]
        clear hn hm h hy hW1 h0 h64 hbig hr0 hl c1 p1
        go_enter Try.func6, Try.ntmps6
        go_wp2_with fail
        go_ret2
        exact ⟨rfl, alloc_bel _ _⟩
      · have t2 : decide ((1024 : Int) < l0) = false := by simp; omega
        have t2' : decide (1024 < l0) = false := by simp; omega
        -- the second box
        obtain ⟨W2, hW2⟩ : ∃ W : World, W = W1.alloc (.cells #[.int .i64 (l0 : Int)] 3) := ⟨_, rfl⟩
        have b2 : Below W1.heap.size W1 W2 := by rw [hW2]; exact alloc_bel _ _
        have HW2 := Lib.hid hW2
        have q2 : W2.cell? ⟨W1.heap.size, 0, none⟩ = some (.int .i64 (l0 : Int)) := by rw [hW2]; simp
        have p2 : W2.cell? ⟨w.heap.size, 0, none⟩ = some (.slice (some ⟨b, off, none⟩) n c) := (b2.cell (p := ⟨w.heap.size, 0, none⟩) (by simp [HZ1.out])).trans p1
        have z2 : W2.heap.size = W1.heap.size + 1 := by rw [hW2]; simp
        have HZ2 := Lib.hid z2
        have b02 := b1.trans (b2.mono b1.size)
        have R2 := Lib.hid (h.below b02)
        have Y2 := Lib.hid (hy.below b02)
        have HCF := Lib.hid (ContainsRows_any (some ⟨b, off, none⟩) c rs 22 #[.pointer (some ⟨W1.heap.size, 0, none⟩)] (fun i => !wordB ((rs.map BRow.l).getD i []) l0) W2
          (enters_of Try.func22 (by kernel_rfl) rfl) hn R2.out.1 (by
            intro i r W hr hbW
            rw [row_l hr]
            exact Feasible1_any r l0 W1.heap.size W ((R2.out.2 r (List.mem_of_getElem? hr)).below hbW) (by omega) ((hbW.cell (p := ⟨W1.heap.size, 0, none⟩) (by simp [z2])).trans q2)))
        have hok : okWords (rs.map BRow.l) = !anyI n (fun i => !wordB ((rs.map BRow.l).getD i []) l0) := by
          simp only [okWords, List.length_map, hn, e0.out, hl]
          simp only [show decide (1 ≤ n) = true from by simp; omega, show decide (n ≤ 64) = true from by simp; omega, show decide (l0 ≤ 1024) = true from by simp; omega, Bool.true_and]
        clear h64 hbig h hy q2 p1
        cases hany : anyI n (fun i => !wordB ((rs.map BRow.l).getD i []) l0) with
        | true =>
          rw [hany] at hok HCF
          have HS : Hid (feasS (rs.map BRow.l) y = (false, 2)) := okWords_no hok
          rw [HS.out]
          clear hn hm hW1 h0 hr0 hl hok hany hW2 z2 c1
          go_enter Try.func6, Try.ntmps6
          go_wp2_with fail
          rw [← HW1.out, ← HZ1.out, ← HW2.out]
          refine HCF.out.mono ?_
          rintro e w3 ⟨rfl, hb3⟩
          go_wp2_with fail
          go_ret2
          exact ⟨rfl, b02.trans (hb3.mono b02.size)⟩
        | false =>
          rw [hany] at hok HCF
          have HOK := Lib.hid hok
          have HR0 := Lib.hid hr0
          cases hcp : copyB y l0 with
          | false =>
            have HS : Hid (feasS (rs.map BRow.l) y = (false, 71)) := feasS_copy hok (by rw [e0.out, hl]; exact hcp)
            have HCP := Lib.hid hcp
            rw [HS.out]
            clear hn hm hW1 h0 hr0 hl hok hany hW2 z2 c1 hcp
            go_enter Try.func6, Try.ntmps6
            go_wp2_with fail
            rw [← HW1.out, ← HZ1.out, ← HW2.out]
            refine HCF.out.mono ?_
            rintro e w3 ⟨rfl, hb3⟩
            have q3 : w3.cell? ⟨W1.heap.size, 0, none⟩ = some (.int .i64 (l0 : Int)) := (hb3.cell (p := ⟨W1.heap.size, 0, none⟩) (by simp [HZ2.out])).trans (by rw [HW2.out]; simp)
            go_wp2_with (go_at_call 24; refine (isCopy_any Y d y l0 _ HM.out (Y2.out.below hb3) (by omega)).mono ?_; rintro e w4 ⟨rfl, hb4⟩; rw [HCP.out])
            go_ret2
            exact ⟨rfl, b02.trans ((hb3.trans (hb4.mono hb3.size)).mono b02.size)⟩
          | true =>
            have HS : Hid (feasS (rs.map BRow.l) y = (isFeas (rs.map BRow.l) y, 0)) := feasS_yes hok (by rw [e0.out, hl]; exact hcp)
            have HCP := Lib.hid hcp
            have hyl : y.length = l0 := copyB_len hcp
            have HYL : Hid (m = l0) := by unfold Hid; omega
            have HWL : Hid (∀ (i : Nat) (r : BRow), rs[i]? = some r → r.l.length = l0) := fun i r hr => by
              have hi : i < rs.length := by
                rcases Nat.lt_or_ge i rs.length with h' | h'
                · exact h'
                · rw [List.getElem?_eq_none h'] at hr; cases hr
              have := (okWords_parts hok).2.2.2 i (by simpa using hi)
              rw [row_l hr, e0.out] at this
              have := wordB_len this
              omega
            rw [HS.out]
            clear hn hm hW1 h0 hr0 hl hok hany hW2 z2 c1 hcp hyl
            go_enter Try.func6, Try.ntmps6
            go_wp2_with fail
            rw [← HW1.out, ← HZ1.out, ← HW2.out]
            refine HCF.out.mono ?_
            rintro e w3 ⟨rfl, hb3⟩
            have q3 : w3.cell? ⟨W1.heap.size, 0, none⟩ = some (.int .i64 (l0 : Int)) := (hb3.cell (p := ⟨W1.heap.size, 0, none⟩) (by simp [HZ2.out])).trans (by rw [HW2.out]; simp)
            go_wp2_with (go_at_call 24; refine (isCopy_any Y d y l0 _ HM.out (Y2.out.below hb3) (by omega)).mono ?_; rintro e w4 ⟨rfl, hb4⟩; rw [HCP.out])
            have hb34 := hb3.trans (hb4.mono hb3.size)
            have hb24 : Below W2.heap.size W2 w4 := hb34
            have hb04 := b02.trans (hb24.mono b02.size)
            have p4 : Hid (w4.cell? ⟨w.heap.size, 0, none⟩ = some (.slice (some ⟨b, off, none⟩) n c)) := (hb24.cell (p := ⟨w.heap.size, 0, none⟩) (by simp [HZ1.out, HZ2.out]; omega)).trans p2
            have z4 : Hid (w.heap.size + 2 ≤ w4.heap.size) := by have := hb24.size; have := HZ1.out; have := HZ2.out; unfold Hid; omega
            clear q3 p2
            go_loopw [38] (fun vk wr => ∃ k : Nat, k ≤ m ∧ vk = .int .i64 k ∧ Hid (∀ j, j < k → bt y j = bt (hd (rs.map BRow.l)) j ∨ oddB (rs.map BRow.l) j = true) ∧ Below w4.heap.size w4 wr) (fun vk _ => m - (intOf vk).toNat)
            case atStart => exact ⟨0, by omega, rfl, fun j hj => absurd hj (by omega), Below.refl _ _⟩
            case round =>
              obtain ⟨k, hk, rfl, HK, hbel⟩ := hrel
              have hb0r := hb04.trans (hbel.mono hb04.size)
              by_cases hkm : k < m
              · obtain ⟨yb, yo, rfl, hyb, hyc⟩ := (HY.out.below hb0r).at_ (i := k) (by have := HM.out; omega)
                have hml : (m : Int) ≤ 140737488351232 := by have := HY.out.len; have := HM.out; omega
                have hx := bt_le y k
                obtain ⟨W4, hW4⟩ : ∃ W : World, W = wr.alloc (.cells #[.int .i64 (k : Int)] 3) := ⟨_, rfl⟩
                have b4 : Below wr.heap.size wr W4 := by rw [hW4]; exact alloc_bel _ _
                have HW4 := Lib.hid hW4
                have b44 := hbel.trans (b4.mono hbel.size)
                have b04 := hb04.trans (b44.mono hb04.size)
                have RW := Lib.hid (H.out.below b04)
                have d1 : W4.cell? ⟨wr.heap.size, 0, none⟩ = some (.int .i64 (k : Int)) := by rw [hW4]; simp
                have d2 : W4.cell? ⟨w.heap.size, 0, none⟩ = some (.slice (some ⟨b, off, none⟩) n c) := (b44.cell (p := ⟨w.heap.size, 0, none⟩) (by have := z4.out; simp; omega)).trans p4.out
                have d3 : W4.cell? ⟨b, off, none⟩ = some (.slice r0.A l0 r0.c) := (b04.cell (p := ⟨b, off, none⟩) hb).trans hc0
                have hz4 : wr.heap.size < W4.heap.size := by rw [hW4]; simp
                have hzw : w.heap.size < W4.heap.size := by have := z4.out; have := b44.size; omega
                obtain ⟨fb, fo, e1, hfb, hfc⟩ := (hR0.below b04).at_ (i := k) (by have := HL.out; have := HYL.out; omega)
                have hx0 := bt_le r0.l k
                have hkl : (k : Int) < l0 := by have := HYL.out; omega
                have hki : (k : Int) < m := by omega
                have HY1 : Hid (bt (hd (rs.map BRow.l)) k = bt r0.l k) := by unfold Hid; rw [e0.out]
                obtain ⟨A0, cc0, l0'⟩ := r0
                dsimp only at e1 hfc hx0 HY1 d3 HL hc0
                subst e1
                rw [← HYL.out] at d3 hkl
                by_cases heq : bt y k = bt l0' k
                · have HK2 : Hid (∀ j, j < k + 1 → bt y j = bt (hd (rs.map BRow.l)) j ∨ oddB (rs.map BRow.l) j = true) := fun j hj => by
                    rcases Nat.lt_or_ge j k with h' | h'
                    · exact HK.out j h'
                    · rw [show j = k from by omega, HY1.out]; exact .inl heq
                  rw [← heq] at hfc
                  generalize bt y k = x at *
                  clear hR0 hW4 hc0 heq
                  go_wp2_with fail
                  rw [← HW4.out]
                  go_quiet (fail)
                  go_wp2_with fail
                  go_roundw
                  case rel => exact ⟨k + 1, by omega, by go_num, HK2, below_drewN b44 _⟩
                  case measure => simp [intOf]; omega
                · have HNE := Lib.hid heq
                  have g1 : ((bt y k : Int) != (bt l0' k : Int)) = true := by rw [bne_iff_ne]; omega
                  have g1' : (bt y k != bt l0' k) = true := by rw [bne_iff_ne]; exact heq
                  have HOD : Hid (anyI n (fun j => bt ((rs.map BRow.l).getD j []) k != bt (hd (rs.map BRow.l)) k) = oddB (rs.map BRow.l) k) := by unfold Hid oddB; rw [List.length_map, HN.out]
                  have HCO0 := fun (x : Wd W4) => ContainsRows_any (some ⟨b, off, none⟩) c rs 25 #[.pointer (some ⟨wr.heap.size, 0, none⟩), .pointer (some ⟨w.heap.size, 0, none⟩)] (fun j => bt ((rs.map BRow.l).getD j []) k != bt (hd (rs.map BRow.l)) k) x.w
                    (enters_of Try.func25 (by kernel_rfl) rfl) HN.out (RW.out.below x.h).1 (by
                      intro i r W hr hbW
                      have hbW' := x.h.trans (hbW.mono x.h.size)
                      rw [row_l hr]
                      have hrl := HWL.out i r hr
                      have hyl := HYL.out
                      exact Feasible2_any (some ⟨b, off, none⟩) c rs r k wr.heap.size w.heap.size W HN.out (RW.out.below hbW') ((RW.out.2 r (List.mem_of_getElem? hr)).below hbW') (by omega) (by have := e0.out; have := HWL.out 0 _ HR0.out; rw [e0.out]; omega) (by have := HN.out; omega)
                        ((hbW'.cell (p := ⟨wr.heap.size, 0, none⟩) hz4).trans d1) ((hbW'.cell (p := ⟨w.heap.size, 0, none⟩) hzw).trans d2))
                  rw [HOD.out] at HCO0
                  have HCO := Lib.hid HCO0
                  have f1 : ∀ x : Wd W4, x.w.cell? ⟨wr.heap.size, 0, none⟩ = some (.int .i64 (k : Int)) := fun x => (x.h.cell (p := ⟨wr.heap.size, 0, none⟩) hz4).trans d1
                  have f2 : ∀ x : Wd W4, x.w.cell? ⟨w.heap.size, 0, none⟩ = some (.slice (some ⟨b, off, none⟩) n c) := fun x => (x.h.cell (p := ⟨w.heap.size, 0, none⟩) hzw).trans d2
                  have f3 : ∀ x : Wd W4, x.w.cell? ⟨b, off, none⟩ = some (.slice (some ⟨fb, fo, none⟩) m cc0) := fun x => (x.h.cell (p := ⟨b, off, none⟩) (Nat.lt_of_lt_of_le hb b04.size)).trans d3
                  have f4 : ∀ x : Wd W4, x.w.cell? ⟨fb, fo + k, none⟩ = some (.int .u8 (bt l0' k : Int)) := fun x => (x.h.cell (p := ⟨fb, fo + k, none⟩) hfb).trans hfc
                  cases hodd : oddB (rs.map BRow.l) k with
                  | true =>
                    rw [hodd] at HCO
                    have HK2 : Hid (∀ j, j < k + 1 → bt y j = bt (hd (rs.map BRow.l)) j ∨ oddB (rs.map BRow.l) j = true) := fun j hj => by
                      rcases Nat.lt_or_ge j k with h' | h'
                      · exact HK.out j h'
                      · rw [show j = k from by omega]; exact .inr hodd
                    generalize bt y k = x at *
                    generalize bt l0' k = x' at *
                    clear hR0 hW4 hc0 heq HCO0 hodd
                    go_wp2_with fail
                    rw [← HW4.out]
                    refine wp_region_wd (by kernel_rfl) (by kernel_rfl) ?_
                    repeat (go_big_quiet_step ((go_at_call 21; exact Wd.call _ (HCO.out _))))
                    refine wpQuiet_nil ?_
                    intro _ hw'
                    obtain ⟨xx, hw''⟩ := hw'
                    subst hw''
                    go_wp2_with fail
                    go_roundw
                    case rel => exact ⟨k + 1, by omega, by go_num, HK2, b44.trans (xx.h.mono b44.size)⟩
                    case measure => simp [intOf]; omega
                  | false =>
                    rw [hodd] at HCO
                    have HF : Hid (isFeas (rs.map BRow.l) y = false) := isFeas_no (k := k) (by have := HM.out; omega) (by rw [HY1.out]; exact heq) hodd
                    generalize bt y k = x at *
                    generalize bt l0' k = x' at *
                    clear hR0 hW4 hc0 heq HCO0 hodd
                    go_wp2_with fail
                    rw [← HW4.out]
                    refine wp_region_wd (by kernel_rfl) (by kernel_rfl) ?_
                    repeat (go_big_quiet_step ((go_at_call 21; exact Wd.call _ (HCO.out _))))
                    refine wpQuiet_nil ?_
                    intro _ hw'
                    obtain ⟨xx, hw''⟩ := hw'
                    subst hw''
                    go_wp2_with fail
                    go_ret2
                    exact ⟨by rw [HF.out]; rfl, b04.trans (xx.h.mono b04.size)⟩
              · have HT : Hid (isFeas (rs.map BRow.l) y = true) := isFeas_yes fun j hj => HK.out j (by have := HM.out; omega)
                go_wp2_with fail
                go_ret2
                exact ⟨by rw [HT.out]; rfl, hb0r⟩
end Go.Proofs.Ytenpkmgbaajeeaa
