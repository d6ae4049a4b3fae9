/-
  valid and the reference's Valid; limited.
-/
import Derived.Test.YtphaojdfeojpeaaNatTimes
namespace Go.Proofs.Ytphaojdfeojpeaa
open Go.RowKit
set_option linter.unusedVariables false

/-- A valid number. -/
def validB (l : List Nat) : Bool := decide (l.length ≤ 16) && (l.isEmpty || (dg l (l.length - 1) != 0))
theorem validB_iff {l : List Nat} : validB l = true ↔ l.length ≤ 16 ∧ Trm l := by
  unfold validB Trm
  cases l <;> simp
theorem validB_digs (n : Nat) : validB (digs n) = decide ((digs n).length ≤ 16) := by
  rw [Bool.eq_iff_iff, validB_iff, decide_eq_true_eq]
  exact ⟨fun h => h.1, fun h => ⟨h, Trm.digs n⟩⟩
theorem validB_ways (l : List Nat) : (16 < l.length ∧ validB l = false) ∨ (l = [] ∧ validB l = true) ∨ (l ≠ [] ∧ l.length ≤ 16 ∧ dg l (l.length - 1) = 0 ∧ validB l = false) ∨ (l ≠ [] ∧ l.length ≤ 16 ∧ dg l (l.length - 1) ≠ 0 ∧ validB l = true) := by
  unfold validB
  by_cases h : l.length ≤ 16
  · by_cases h2 : l = []
    · exact .inr (.inl ⟨h2, by subst h2; rfl⟩)
    · have h3 : l.isEmpty = false := by simpa using h2
      by_cases h4 : dg l (l.length - 1) = 0
      · exact .inr (.inr (.inl ⟨h2, h, h4, by simp [h3, h4]⟩))
      · exact .inr (.inr (.inr ⟨h2, h, h4, by simp [h, h3, h4]⟩))
  · exact .inl ⟨by omega, by simp; omega⟩

set_option maxHeartbeats 1000000 in
theorem refValid_any (A : Option Addr) (c : Nat) (l : List Nat) (w : World) {n : Nat} (hn : l.length = n) (h : NR w A c l) :
    Calls Try.prog 62 #[.slice A n c] w fun e w' => e = .returned (.bool (validB l)) ∧ w = w' := by
  subst hn
  have hlen : (l.length : Int) ≤ 35184372088832 := int_le_of h.len
  rcases validB_ways l with ⟨h1, hv⟩ | ⟨h1, hv⟩ | ⟨h0, h1, h2, hv⟩ | ⟨h0, h1, h2, hv⟩
  · have HV := Lib.hid hv
    have t1 : decide ((l.length : Int) ≤ 16) = false := by simp; omega
    clear hv h1
    go_enter Try.func62, Try.ntmps62
    go_wp2
    go_ret
    exact ⟨ret_bool HV.out.symm, rfl⟩
  · have HV := Lib.hid hv
    subst h1
    clear hv
    go_enter Try.func62, Try.ntmps62
    go_wp2
    go_ret
    exact ⟨ret_bool HV.out.symm, rfl⟩
  · have HV := Lib.hid hv
    have hp : 0 < l.length := List.length_pos_iff.2 h0
    obtain ⟨b, off, rfl, hb, hc⟩ := h.at_ (i := l.length - 1) (by omega)
    have t1 : decide ((l.length : Int) ≤ 16) = true := by simp; omega
    have t2 : ((l.length : Int) == 0) = false := by simp; omega
    have t3 : ((dg l (l.length - 1) : Int) != 0) = false := by simp; omega
    have H2 := Lib.hid h2
    clear hv h0 h2
    go_enter Try.func62, Try.ntmps62
    go_wp2
    go_ret
    exact ⟨ret_bool HV.out.symm, rfl⟩
  · have HV := Lib.hid hv
    have hp : 0 < l.length := List.length_pos_iff.2 h0
    obtain ⟨b, off, rfl, hb, hc⟩ := h.at_ (i := l.length - 1) (by omega)
    have t1 : decide ((l.length : Int) ≤ 16) = true := by simp; omega
    have t2 : ((l.length : Int) == 0) = false := by simp; omega
    have t3 : ((dg l (l.length - 1) : Int) != 0) = true := by simp; omega
    have t4 : ((dg l (l.length - 1) : Int) == 0) = false := by simp; omega
    have H2 := Lib.hid h2
    clear hv h0 h2
    go_enter Try.func62, Try.ntmps62
    go_wp2
    go_ret
    exact ⟨ret_bool HV.out.symm, rfl⟩
set_option maxHeartbeats 1000000 in
theorem valid1_any (A : Option Addr) (c : Nat) (l : List Nat) (w : World) {n : Nat} (hn : l.length = n) (h : NR w A c l) :
    Calls Try.prog 104 #[.slice A n c] w fun e w' => e = .returned (.bool (!validB l)) ∧ w = w' := by
  subst hn
  have hlen : (l.length : Int) ≤ 35184372088832 := int_le_of h.len
  rcases validB_ways l with ⟨h1, hv⟩ | ⟨h1, hv⟩ | ⟨h0, h1, h2, hv⟩ | ⟨h0, h1, h2, hv⟩
  · have HV := Lib.hid hv
    have t1 : decide ((16 : Int) < l.length) = true := by simp; omega
    clear hv h1
    go_enter Try.func104, Try.ntmps104
    go_wp2
    go_ret
    exact ⟨ret_bool (by rw [HV.out]; rfl), rfl⟩
  · have HV := Lib.hid hv
    subst h1
    clear hv
    go_enter Try.func104, Try.ntmps104
    go_wp2
    go_ret
    exact ⟨ret_bool (by rw [HV.out]; rfl), rfl⟩
  · have HV := Lib.hid hv
    have hp : 0 < l.length := List.length_pos_iff.2 h0
    obtain ⟨b, off, rfl, hb, hc⟩ := h.at_ (i := l.length - 1) (by omega)
    have t1 : decide ((16 : Int) < l.length) = false := by simp; omega
    have t2 : decide ((0 : Int) < l.length) = true := by simp; omega
    have t3 : ((dg l (l.length - 1) : Int) == 0) = true := by simp; omega
    have H2 := Lib.hid h2
    clear hv h0 h2
    go_enter Try.func104, Try.ntmps104
    go_wp2
    go_ret
    exact ⟨ret_bool (by rw [HV.out]; rfl), rfl⟩
  · have HV := Lib.hid hv
    have hp : 0 < l.length := List.length_pos_iff.2 h0
    obtain ⟨b, off, rfl, hb, hc⟩ := h.at_ (i := l.length - 1) (by omega)
    have t1 : decide ((16 : Int) < l.length) = false := by simp; omega
    have t2 : decide ((0 : Int) < l.length) = true := by simp; omega
    have t4 : ((dg l (l.length - 1) : Int) == 0) = false := by simp; omega
    have H2 := Lib.hid h2
    clear hv h0 h2
    go_enter Try.func104, Try.ntmps104
    go_wp2
    go_ret
    exact ⟨ret_bool (by rw [HV.out]; rfl), rfl⟩

/-- The first m cells of block g are the numbers f. -/
def Nums (w : World) (g m : Nat) (f : Nat → Option Addr × Nat × List Nat) : Prop :=
  ∀ i, i < m → w.cell? ⟨g, i, none⟩ = some (.slice (f i).1 (f i).2.2.length (f i).2.1) ∧ NR w (f i).1 (f i).2.1 (f i).2.2
/-- The index of the first number that is not valid, or -1. -/
def badI (m : Nat) (f : Nat → Option Addr × Nat × List Nat) (r : Int) : Prop :=
  (r = -1 ∧ ∀ i, i < m → validB (f i).2.2 = true) ∨ (0 ≤ r ∧ ∃ i, i < m ∧ validB (f i).2.2 = false)

theorem first_bad {p : Nat → Bool} : ∀ (m : Nat), (∃ i, i < m ∧ p i = false) → ∃ k, k < m ∧ p k = false ∧ ∀ j, j < k → p j = true
  | 0, h => by obtain ⟨i, hi, _⟩ := h; omega
  | m + 1, h => by
    by_cases h2 : ∃ i, i < m ∧ p i = false
    · obtain ⟨k, h3, h4, h5⟩ := first_bad m h2
      exact ⟨k, by omega, h4, h5⟩
    · obtain ⟨i, hi, hp⟩ := h
      have e : i = m := by
        rcases Nat.lt_or_ge i m with h' | h'
        · exact absurd ⟨i, h', hp⟩ h2
        · omega
      subst e
      exact ⟨i, by omega, hp, fun j hj => by
        cases hv : p j
        · exact absurd ⟨j, hj, hv⟩ h2
        · rfl⟩

set_option maxHeartbeats 1000000 in
theorem IndexFunc_any (g m c : Nat) (f : Nat → Option Addr × Nat × List Nat) (w : World) (hm : m ≤ 1000000) (h : Nums w g m f) :
    ∃ r : Int, badI m f r ∧ Calls Try.prog 117 #[.slice (some ⟨g, 0, none⟩) m c, .func (.func 104) #[] #[]] w fun e w' => e = .returned (.int .i64 r) ∧ w = w' := by
  have hm2 : (m : Int) ≤ 1000000 := int_le_of hm
  have H := Lib.hid h
  by_cases hall : ∀ i, i < m → validB (f i).2.2 = true
  · refine ⟨-1, .inl ⟨rfl, hall⟩, ?_⟩
    have HA := Lib.hid hall
    clear hall h
    go_enter Try.func117, Try.ntmps117
    go_wp2_with fail
    go_loop [8] (fun vk => ∃ k : Nat, k ≤ m ∧ vk = .int .i64 k) (fun vk => m - (intOf vk).toNat)
    case atStart => exact ⟨0, by omega, rfl⟩
    case round =>
      obtain ⟨k, hk, rfl⟩ := hrel
      by_cases hkn : k < m
      · obtain ⟨h1, h2⟩ := H.out k hkn
        have hv := HA.out k hkn
        generalize f k = x at *
        obtain ⟨A, ca, l⟩ := x
        dsimp only at h1 h2 hv
        go_wp2_with (go_at_call 104; refine (valid1_any A ca l _ rfl h2).mono ?_; rintro e w' ⟨rfl, rfl⟩; rw [hv])
        go_round
        case rel => exact ⟨k + 1, by omega, by go_num⟩
        case measure => simp [intOf]; omega
      · go_wp2_with fail
        go_ret
        exact ⟨rfl, rfl⟩
  · obtain ⟨k0, hk0, hb0, hlt⟩ := first_bad (p := fun i => validB (f i).2.2) m (by
      apply Classical.byContradiction
      intro hno
      exact hall fun i hi => by
        cases hv : validB (f i).2.2
        · exact absurd ⟨i, hi, hv⟩ hno
        · rfl)
    refine ⟨k0, .inr ⟨by omega, k0, hk0, hb0⟩, ?_⟩
    have HA := Lib.hid hlt
    clear hall h hlt
    go_enter Try.func117, Try.ntmps117
    go_wp2_with fail
    go_loop [8] (fun vk => ∃ k : Nat, k ≤ k0 ∧ vk = .int .i64 k) (fun vk => k0 - (intOf vk).toNat)
    case atStart => exact ⟨0, by omega, rfl⟩
    case round =>
      obtain ⟨k, hk, rfl⟩ := hrel
      by_cases hkn : k < k0
      · have hkm : k < m := by omega
        obtain ⟨h1, h2⟩ := H.out k hkm
        have hv := HA.out k hkn
        generalize f k = x at *
        obtain ⟨A, ca, l⟩ := x
        dsimp only at h1 h2 hv
        go_wp2_with (go_at_call 104; refine (valid1_any A ca l _ rfl h2).mono ?_; rintro e w' ⟨rfl, rfl⟩; rw [hv])
        go_round
        case rel => exact ⟨k + 1, by omega, by go_num⟩
        case measure => simp [intOf]; omega
      · obtain rfl : k = k0 := by omega
        obtain ⟨h1, h2⟩ := H.out k hk0
        generalize f k = x at *
        obtain ⟨A, ca, l⟩ := x
        dsimp only at h1 h2 hb0
        go_wp2_with (go_at_call 104; refine (valid1_any A ca l _ rfl h2).mono ?_; rintro e w' ⟨rfl, rfl⟩; rw [hb0])
        go_ret
        exact ⟨rfl, rfl⟩

set_option maxHeartbeats 1000000 in
theorem valid_any (g m c : Nat) (f : Nat → Option Addr × Nat × List Nat) (w : World) (hm : m ≤ 1000000) (h : Nums w g m f) :
    ∃ v : Bool, (v = true ↔ ∀ i, i < m → validB (f i).2.2 = true) ∧ Calls Try.prog 74 #[.slice (some ⟨g, 0, none⟩) m c] w fun e w' => e = .returned (.bool v) ∧ w = w' := by
  obtain ⟨r, hr, hc⟩ := IndexFunc_any g m c f w hm h
  refine ⟨decide (r < 0), ?_, ?_⟩
  · rw [decide_eq_true_eq]
    rcases hr with ⟨rfl, h1⟩ | ⟨h0, i, hi, hv⟩
    · exact ⟨fun _ => h1, fun _ => by omega⟩
    · exact ⟨fun h => by omega, fun h => by have := h i hi; rw [hv] at this; cases this⟩
  · have HC := Lib.hid hc
    clear hr hc
    have HG : Calls Try.prog 103 #[.slice (some ⟨g, 0, none⟩) m c, .func (.func 104) #[] #[]] w fun e w' => e = .returned (.bool (decide (0 ≤ r))) ∧ w = w' := by
      go_enter Try.func103, Try.ntmps103
      go_wp2_with (go_at_call 117; refine HC.out.mono ?_; rintro e w' ⟨rfl, rfl⟩)
      go_ret
      exact ⟨rfl, rfl⟩
    have HG2 := Lib.hid HG
    clear HG
    go_enter Try.func74, Try.ntmps74
    go_wp2_with (go_at_call 103; refine HG2.out.mono ?_; rintro e w' ⟨rfl, rfl⟩)
    go_ret
    exact ⟨ret_bool (by rw [Bool.eq_iff_iff]; simp), rfl⟩
/-- Two numbers in a block of the call's own. -/
theorem valid_two (A : Option Addr) (ca : Nat) (a : List Nat) (Bd : Option Addr) (cb : Nat) (b : List Nat) (w : World) {na nb : Nat} (hna : a.length = na) (hnb : b.length = nb) (ha : NR w A ca a) (hb : NR w Bd cb b) (t : TypeId) :
    Calls Try.prog 74 #[.slice (some ⟨w.heap.size, 0, none⟩) 2 2] (w.alloc (.cells #[.slice A na ca, .slice Bd nb cb] t)) fun e w' => e = .returned (.bool (validB a && validB b)) ∧ w.alloc (.cells #[.slice A na ca, .slice Bd nb cb] t) = w' := by
  subst hna hnb
  have hN : Nums (w.alloc (.cells #[.slice A a.length ca, .slice Bd b.length cb] t)) w.heap.size 2 (fun i => if i = 0 then (A, ca, a) else (Bd, cb, b)) := fun i hi => by
    match i, hi with
    | 0, _ => exact ⟨by simp, ha.alloc _⟩
    | 1, _ => exact ⟨by simp, hb.alloc _⟩
  obtain ⟨v, hv, hc⟩ := valid_any w.heap.size 2 2 _ _ (by omega) hN
  have e : v = (validB a && validB b) := by
    rw [Bool.eq_iff_iff, hv, Bool.and_eq_true]
    exact ⟨fun h => ⟨h 0 (by omega), h 1 (by omega)⟩, fun h i hi => by
      match i, hi with
      | 0, _ => exact h.1
      | 1, _ => exact h.2⟩
  rw [← e]
  exact hc
theorem valid_one (A : Option Addr) (ca : Nat) (a : List Nat) (w : World) {na : Nat} (hna : a.length = na) (ha : NR w A ca a) (t : TypeId) :
    Calls Try.prog 74 #[.slice (some ⟨w.heap.size, 0, none⟩) 1 1] (w.alloc (.cells #[.slice A na ca] t)) fun e w' => e = .returned (.bool (validB a)) ∧ w.alloc (.cells #[.slice A na ca] t) = w' := by
  subst hna
  have hN : Nums (w.alloc (.cells #[.slice A a.length ca] t)) w.heap.size 1 (fun i => (A, ca, a)) := fun i hi => by
    match i, hi with
    | 0, _ => exact ⟨by simp, ha.alloc _⟩
  obtain ⟨v, hv, hc⟩ := valid_any w.heap.size 1 1 _ _ (by omega) hN
  have e : v = validB a := by
    rw [Bool.eq_iff_iff, hv]
    exact ⟨fun h => h 0 (by omega), fun h i hi => h⟩
  rw [← e]
  exact hc

/-- What 'limited' hands back of a number. -/
def limV (A : Option Addr) (n c : Nat) : Value := if n ≤ 16 then .tuple #[.slice A n c, .int .i64 0] else .tuple #[.slice none 0 0, .int .i64 4]
theorem limV_yes {A : Option Addr} {n c : Nat} (h : n ≤ 16) : limV A n c = .tuple #[.slice A n c, .int .i64 0] := by rw [limV, if_pos h]
theorem limV_no {A : Option Addr} {n c : Nat} (h : 16 < n) : limV A n c = .tuple #[.slice none 0 0, .int .i64 4] := by rw [limV, if_neg (by omega)]
set_option maxHeartbeats 400000 in
theorem limited_any (A : Option Addr) (n c : Nat) (w : World) : Calls Try.prog 81 #[.slice A n c] w fun e w' => e = .returned (limV A n c) ∧ w = w' := by
  by_cases h : n ≤ 16
  · have t1 : decide ((16 : Int) < n) = false := by simp; omega
    rw [limV_yes h]
    clear h
    go_enter Try.func81, Try.ntmps81
    go_wp2
    go_ret2
    exact ⟨rfl, rfl⟩
  · have t1 : decide ((16 : Int) < n) = true := by simp; omega
    rw [limV_no (by omega)]
    clear h
    go_enter Try.func81, Try.ntmps81
    go_wp2
    go_ret2
    exact ⟨rfl, rfl⟩
set_option maxHeartbeats 400000 in
theorem refLimited_any (A : Option Addr) (n c : Nat) (w : World) : Calls Try.prog 84 #[.slice A n c] w fun e w' => e = .returned (limV A n c) ∧ w = w' := by
  by_cases h : n ≤ 16
  · have t1 : decide ((16 : Int) < n) = false := by simp; omega
    rw [limV_yes h]
    clear h
    go_enter Try.func84, Try.ntmps84
    go_wp2
    go_ret2
    exact ⟨rfl, rfl⟩
  · have t1 : decide ((16 : Int) < n) = true := by simp; omega
    rw [limV_no (by omega)]
    clear h
    go_enter Try.func84, Try.ntmps84
    go_wp2
    go_ret2
    exact ⟨rfl, rfl⟩
end Go.Proofs.Ytphaojdfeojpeaa
