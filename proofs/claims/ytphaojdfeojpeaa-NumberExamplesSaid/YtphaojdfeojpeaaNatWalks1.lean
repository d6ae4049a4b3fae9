/-
  What the small functions on digits compute.
-/
import Derived.Test.YtphaojdfeojpeaaNatMem
import Derived.Test.YtphaojdfeojpeaaModWalks
import Derived.Test.YtphaojdfeojpeaaOwn
namespace Go.Proofs.Ytphaojdfeojpeaa
open Go.RowKit
set_option linter.unusedVariables false

theorem tuple_int2 {j k : IntKind} {a b c d : Int} (h : a = b) (h2 : c = d) : Ending.returned (.tuple #[.int j a, .int k c]) = .returned (.tuple #[.int j b, .int k d]) := by rw [h, h2]
theorem ret_slice {A : Option Addr} {n m c : Nat} (h : n = m) : Ending.returned (.slice A n c) = .returned (.slice A m c) := by rw [h]
theorem quo_castk (r x : Nat) : (r : Int) / (x : Int) = ((r / x : Nat) : Int) := by rw [Int.natCast_ediv]

set_option maxHeartbeats 400000 in
theorem digit_any (A : Option Addr) (c : Nat) (l : List Nat) (i : Nat) (w : World) {n : Nat} (hn : l.length = n) (h : NR w A c l) (hi : i ≤ 4611686018427387904) :
    Calls Try.prog 76 #[.slice A n c, .int .i64 i] w fun e w' => e = .returned (.int .u64 (dg l i : Nat)) ∧ w = w' := by
  subst hn
  have hlen : (l.length : Int) ≤ 35184372088832 := int_le_of h.len
  have hi2 : (i : Int) ≤ 4611686018427387904 := int_le_of hi
  clear hi
  by_cases hk : i < l.length
  · obtain ⟨b, off, rfl, hb, hc⟩ := h.at_ hk
    have h1 : (dg l i : Int) ≤ 4294967295 := by have := dg_lt h.dig i; omega
    clear h
    go_enter Try.func76, Try.ntmps76
    go_wp2
    go_ret
    exact ⟨rfl, rfl⟩
  · have HD := Lib.hid (dg_out (Nat.le_of_not_lt hk))
    clear h
    go_enter Try.func76, Try.ntmps76
    go_wp2
    go_ret
    exact ⟨ret_int (by rw [HD.out]; rfl), rfl⟩
set_option maxHeartbeats 400000 in
theorem refAt_any (A : Option Addr) (c : Nat) (l : List Nat) (i : Nat) (w : World) {n : Nat} (hn : l.length = n) (h : NR w A c l) (hi : i ≤ 4611686018427387904) :
    Calls Try.prog 113 #[.slice A n c, .int .i64 i] w fun e w' => e = .returned (.int .u64 (dg l i : Nat)) ∧ w = w' := by
  subst hn
  have hlen : (l.length : Int) ≤ 35184372088832 := int_le_of h.len
  have hi2 : (i : Int) ≤ 4611686018427387904 := int_le_of hi
  clear hi
  by_cases hk : i < l.length
  · obtain ⟨b, off, rfl, hb, hc⟩ := h.at_ hk
    have h1 : (dg l i : Int) ≤ 4294967295 := by have := dg_lt h.dig i; omega
    clear h
    go_enter Try.func113, Try.ntmps113
    go_wp2
    go_ret
    exact ⟨rfl, rfl⟩
  · have HD := Lib.hid (dg_out (Nat.le_of_not_lt hk))
    clear h
    go_enter Try.func113, Try.ntmps113
    go_wp2
    go_ret
    exact ⟨ret_int (by rw [HD.out]; rfl), rfl⟩
set_option maxHeartbeats 400000 in
theorem halves_any (x : Nat) (w : World) {X : Int} (hX : X = x) (h : x < 18446744073709551616) :
    Calls Try.prog 114 #[.int .u64 X] w fun e w' => e = .returned (.tuple #[.int .u32 (x % 4294967296 : Nat), .int .u64 (x / 4294967296 : Nat)]) ∧ w = w' := by
  subst hX
  have H := Lib.hid h
  have h1 : (x : Int) ≤ 18446744073709551615 := by omega
  clear h
  go_enter Try.func114, Try.ntmps114
  go_wp2
  go_ret2
  exact ⟨tuple_int2 (emod_cast x 4294967296) (quo_castk x 4294967296), rfl⟩

/-- trim: the slice up to the last digit that is not 0. -/
theorem trim_any (A : Option Addr) (c : Nat) (l : List Nat) (w : World) {n : Nat} (hn : l.length = n) (h : NR w A c l) :
    Calls Try.prog 85 #[.slice A n c] w fun e w' => e = .returned (.slice A (digs (val l)).length c) ∧ w = w' := by
  subst hn
  have hlen : (l.length : Int) ≤ 35184372088832 := int_le_of h.len
  have hcap : (c : Int) ≤ 9223372036854775807 := int_le_of h.cap
  have hle := h.le
  go_enter Try.func85, Try.ntmps85
  go_wp2
  go_loop [3] (fun vn => ∃ n : Nat, n ≤ l.length ∧ Hid (∀ i, n ≤ i → dg l i = 0) ∧ vn = .int .i64 n) (fun vn => (intOf vn).toNat)
  case atStart => exact ⟨l.length, Nat.le_refl _, fun i hi => dg_out hi, rfl⟩
  case round =>
    obtain ⟨n, hn, H, rfl⟩ := hrel
    by_cases h0 : 0 < n
    · obtain ⟨b, off, rfl, hb, hc⟩ := h.at_ (i := n - 1) (by omega)
      by_cases hz : dg l (n - 1) = 0
      · have hz1 : ((dg l (n - 1) : Int) == 0) = true := by simp; omega
        have H2 : Hid (∀ i, n - 1 ≤ i → dg l i = 0) := fun i hi => by
          by_cases e : i = n - 1
          · rw [e]; exact hz
          · exact H.out i (by omega)
        clear hz
        go_wp2
        go_round
        case rel => exact ⟨n - 1, by omega, H2, int_cong (by omega)⟩
        case measure => simp [intOf]; omega
      · have hz1 : ((dg l (n - 1) : Int) == 0) = false := by simp; omega
        have HT : Hid (digs (val l) = l.take n) := digs_trim h.dig hn H.out (.inr hz)
        clear hz
        go_wp2
        go_ret
        exact ⟨ret_slice (by rw [HT.out, List.length_take, Nat.min_eq_left hn]), rfl⟩
    · have hn0 : n = 0 := by omega
      have HT : Hid (digs (val l) = l.take n) := digs_trim h.dig hn H.out (.inl hn0)
      have HN := Lib.hid hn0
      clear hn0
      go_wp2
      go_ret
      exact ⟨ret_slice (by rw [HT.out, List.length_take, Nat.min_eq_left hn]), rfl⟩

/-- The row that the call owns, as a number. -/
def ON (B : Nat) (w : World) (A : Option Addr) (c : Nat) (l : List Nat) : Prop := w.ownsRow B 85 1 (.slice A l.length c) l.length (cellsN l).toList ∧ Dig l ∧ l.length ≤ 35184372088832
theorem cellsN_one (l : List Nat) : ∀ u ∈ (cellsN l).toList, u.oneCell' = true := by
  intro u hu
  simp only [cellsN, List.mem_map] at hu
  obtain ⟨x, _, rfl⟩ := hu
  rfl
theorem ON.nf {B : Nat} {w : World} {A : Option Addr} {c : Nat} {l : List Nat} (h : ON B w A c l) : NF B w A c l := by
  obtain ⟨hown, hd, hl⟩ := h
  rcases hown.2 with ⟨hv, h0⟩ | ⟨g, cap, cur, hv, hB, hh, hnc, hm, hs, ht⟩
  · injection hv with h1 h2 h3
    have : l = [] := List.eq_nil_of_length_eq_zero h0
    subst h1 h3 this
    exact NF.nil B w
  · injection hv with h1 h2 h3
    subst h1 h3
    have hcell : ∀ i, i < l.length → w.cell? ⟨g, 0 + i, none⟩ = some (.int .u32 (dg l i : Nat)) := fun i hi => by
      have := hown.cellAt i (by omega)
      rw [Nat.zero_add, this]
      simpa using cellsN_get l i hi
    have hlt : g < w.heap.size := by
      rcases Nat.lt_or_ge g w.heap.size with hlt | hge
      · exact hlt
      · rw [Array.getElem?_eq_none hge] at hh; cases hh
    exact ⟨⟨hd, hnc, ⟨by simpa [maxLen] using hm, hl⟩, fun _ => ⟨g, 0, rfl, hlt, hcell⟩⟩, fun _ => ⟨g, 0, rfl, hB, fun i _ => by simpa using hown.frozenAt _⟩⟩
theorem ON.nil (B : Nat) (w : World) : ON B w none 0 [] := ⟨World.ownsRow_nil w B _ 1, Dig.nil, by simp⟩
theorem ON.below {B : Nat} {w w' : World} {A : Option Addr} {c : Nat} {l : List Nat} (h : ON B w A c l) (hb : Below w.heap.size w w') : ON B w' A c l := ⟨ownsRow_below h.1 hb, h.2⟩
theorem NR.src {w : World} {A : Option Addr} {c : Nat} {l : List Nat} (h : NR w A c l) : Src w 1 A l.length (cellsN l).toList := by
  refine ⟨by simp [cellsN], ?_⟩
  by_cases hl : l = []
  · exact .inl (by rw [hl]; rfl)
  · obtain ⟨b, off, e, hb, hc⟩ := h.2.2.2 hl
    refine .inr ⟨_, e, fun j u hu => ?_⟩
    have hj : j < l.length := by
      rcases Nat.lt_or_ge j l.length with h' | h'
      · exact h'
      · rw [List.getElem?_eq_none (by simpa [cellsN] using h')] at hu; cases hu
    have h2 := cellsN_get l j hj
    have h3 : u = .int .u32 (dg l j : Nat) := by
      rw [← Array.getElem?_toList] at h2
      rw [h2] at hu
      injection hu with hu
      exact hu.symm
    rw [h3, Addr.add_lit]
    exact hc j hj

theorem cellsN_append (a b : List Nat) : (cellsN (a ++ b)).toList = (cellsN a).toList ++ (cellsN b).toList := by simp [cellsN]
/-- append onto a number of the call's own. -/
theorem wpList_append_nat (w : World) {ops : Array Oper} {rest : List Oper} {o : Oper} {a : Act} {Q : Exit → Act → World → Prop} (hgd : o.guard = none) (s x : Operand)
    (ho : o.op = .call { callee := .builtin .append, args := #[s, x], argTypes := #[41, 41] })
    (B : Nat) (A : Option Addr) (n c : Nat) (l : List Nat) (hn : l.length = n) (hs : a.eval s = .slice A n c) (hown : ON B w A c l)
    (X : Option Addr) (m d : Nat) (news : List Nat) (hm : news.length = m) (hx : a.eval x = .slice X m d) (hsrc : Src w 1 X m (cellsN news).toList) (hd : Dig news)
    (hlen : n + m ≤ 35184372088832) (hB : B ≤ w.heap.size)
    (h : ∀ A' c' w', ON B w' A' c' (l ++ news) → Below B w w' → w.grownBy w' (Value.ownBlock (.slice A n c)) → wpList Try.prog ops Q rest (a.put o.dst (.slice A' (n + m) c')) w') : wpList Try.prog ops Q (o :: rest) a w := by
  obtain ⟨i0, hi, hz0, hz1, hz2⟩ := info_parts u32_info
  subst hn hm
  refine wpList_append_src w hgd s x 41 ho B 85 i0 (.int .u32 0) 1 4 Try.underlying41 hi hz0 hz1 hz2 rfl (by omega) A l.length c (cellsN l).toList hs hown.1 X news.length d (cellsN news).toList hx hsrc (cellsN_one _)
    (by simp only [maxLen]; omega) (by omega) hB ?_
  intro A' c' w' h1 h2 h3
  refine h A' c' w' ⟨?_, hown.2.1.append hd, by rw [List.length_append]; omega⟩ (grown_below (Below.refl _ _) hown.1 h2 hB (Nat.le_refl _)) h2
  rw [cellsN_append, List.length_append]
  exact h1

set_option maxHeartbeats 400000 in
/-- The reference's trim: the same digits in new memory. -/
theorem refTrim_any (A : Option Addr) (c : Nat) (l : List Nat) (w : World) {n : Nat} (hn : l.length = n) (h : NR w A c l) :
    Calls Try.prog 86 #[.slice A n c] w fun e w' => ∃ A' c', e = .returned (.slice A' (digs (val l)).length c') ∧ NF w.heap.size w' A' c' (digs (val l)) ∧ Below w.heap.size w w' := by
  subst hn
  have hlen : (l.length : Int) ≤ 35184372088832 := int_le_of h.len
  have hcap : (c : Int) ≤ 9223372036854775807 := int_le_of h.cap
  have hle := h.le
  go_enter Try.func86, Try.ntmps86
  go_wp2
  go_loop [3] (fun vn => ∃ n : Nat, n ≤ l.length ∧ Hid (∀ i, n ≤ i → dg l i = 0) ∧ vn = .int .i64 n) (fun vn => (intOf vn).toNat)
  case atStart => exact ⟨l.length, Nat.le_refl _, fun i hi => dg_out hi, rfl⟩
  case round =>
    obtain ⟨n, hn, H, rfl⟩ := hrel
    by_cases h0 : 0 < n
    · obtain ⟨b, off, hA, hb, hc⟩ := h.at_ (i := n - 1) (by omega)
      by_cases hz : dg l (n - 1) = 0
      · have hz1 : ((dg l (n - 1) : Int) == 0) = true := by simp; omega
        have H2 : Hid (∀ i, n - 1 ≤ i → dg l i = 0) := fun i hi => by
          by_cases e : i = n - 1
          · rw [e]; exact hz
          · exact H.out i (by omega)
        clear hz
        subst hA
        go_wp2
        go_round
        case rel => exact ⟨n - 1, by omega, H2, int_cong (by omega)⟩
        case measure => simp [intOf]; omega
      · have hz1 : ((dg l (n - 1) : Int) == 0) = false := by simp; omega
        have HT : Hid (digs (val l) = l.take n) := digs_trim h.dig hn H.out (.inr hz)
        have HL : Hid ((l.take n).length = n) := by unfold Hid; rw [List.length_take, Nat.min_eq_left hn]
        clear hz
        subst hA
        go_wp2_with (at_builtin; refine wpList_append_nat _ rfl (.const (.slice none 0 0)) (.tmp 20) rfl w.heap.size none 0 0 [] rfl rfl (ON.nil _ _) (some ⟨b, off, none⟩) n c (l.take n) HL.out rfl (by have := (h.take n).src; rw [HL.out] at this; exact this) (h.dig.take n) (by omega) (Nat.le_refl _) ?_; intro A' c' w' hon hbel hg; clear hg)
        go_ret
        exact ⟨A', c', ret_slice (by rw [HT.out, HL.out]), by rw [HT.out]; exact hon.nf, hbel⟩
    · have hn0 : n = 0 := by omega
      have HT : Hid (digs (val l) = []) := by have := digs_trim h.dig hn H.out (.inl hn0); unfold Hid; rw [this, hn0]; rfl
      subst hn0
      go_wp2_with (at_builtin; refine wpList_append_nat _ rfl (.const (.slice none 0 0)) (.tmp 20) rfl w.heap.size none 0 0 [] rfl rfl (ON.nil _ _) A 0 c [] rfl rfl (Src.nil _ _ _) Dig.nil (by omega) (Nat.le_refl _) ?_; intro A' c' w' hon hbel hg; clear hg)
      go_ret
      exact ⟨A', c', ret_slice (by rw [HT.out]; rfl), by rw [HT.out]; exact hon.nf, hbel⟩
end Go.Proofs.Ytphaojdfeojpeaa
