/-
  Lemmas and contracts, joined: part 7.
-/
import Derived.Test.YtinpiodfpnbllaaAuditTreesB6
set_option linter.unusedSimpArgs false
set_option linter.unusedVariables false
/- Texts: the program's; texts that were returned. -/
namespace Go.Proofs.Ytinpiodfpnbllaa
open Go.RowKit
set_option linter.unusedVariables false
set_option linter.unusedSimpArgs false

/-- Texts that are returned, with an error. -/
def TxEnd (ts : List (List UInt8)) (e0 : Int) (e : Ending) (w' : World) : Prop := ∃ A c rs, e = .returned (.tuple #[.slice A rs.length c, .int .i64 e0]) ∧ rs.map BRow.l = ts ∧ RR w' A c rs
def textsR (ks : List (List UInt8)) : List (List UInt8) × Int := if 128 < ks.length then ([], 4) else (textsS ks, 0)
theorem RR.nil (w : World) : RR w none 0 [] := ⟨Rd.nil w 1, by simp⟩
theorem TX.rr {B : Nat} {w : World} {g : Nat} {ts : List (List UInt8)} (h : TX B w g ts) (hl : ts.length ≤ 100000) : ∃ A c rs, w.cell? ⟨g, 0, none⟩ = some (.slice A rs.length c) ∧ rs.map BRow.l = ts ∧ RR w A c rs := by
  obtain ⟨A, c, rs, h1, h2, h3, h4, h5, h6⟩ := h
  have hrl : rs.length ≤ 100000 := by rw [← List.length_map (f := BRow.l), h1]; exact hl
  refine ⟨A, c, rs, h3.cell 0, h1, h4.rr (by omega) fun r hr => (h5 r hr).br ?_⟩
  have := h6 r.l (by rw [← h1]; exact List.mem_map.2 ⟨r, hr, rfl⟩)
  omega
theorem TX.new (w : World) : TX w.heap.size (w.alloc (.cells #[.slice none 0 0] 119)) w.heap.size [] :=
  ⟨none, 0, [], rfl, Nat.le_refl _, Blk.new w _ _, RO.nil _ _, by simp, by simp⟩

set_option maxHeartbeats 1000000 in
set_option maxRecDepth 100000 in
theorem Texts_any (ks : List (List UInt8)) (A : Option Addr) (c : Nat) (w : World) {n : Nat} (hn : ks.length = n) (h : KR w A c ks) :
    Calls Try.prog 17 #[.slice A n c] w fun e w' => TxEnd (textsR ks).1 (textsR ks).2 e w' ∧ Below w.heap.size w w' := by
  have hnl : (n : Int) ≤ 140737488351232 := by have := h.len; omega
  rcases (by omega : 128 < n ∨ n = 0 ∨ (1 ≤ n ∧ n ≤ 128)) with hw | rfl | ⟨h1, hw⟩
  · have HS : Hid (textsR ks = ([], 4)) := by unfold Hid textsR; rw [if_pos (by omega)]
    have hbi : (128 : Int) < n := by omega
    clear hn h hw
    go_enter Try.func17, Try.ntmps17
    go_wp2
    go_ret2
    rw [HS.out]
    exact ⟨⟨none, 0, [], rfl, rfl, RR.nil _⟩, Below.refl _ _⟩
  · have HS : Hid (textsR ks = ([[]], 0)) := by unfold Hid textsR; rw [if_neg (by omega), List.eq_nil_of_length_eq_zero hn, textsS_nil]
    clear hn h hnl
    go_enter Try.func17, Try.ntmps17
    go_wp2
    go_ret2
    rw [HS.out]
    refine ⟨⟨some ⟨w.heap.size, 0, none⟩, 1, [⟨none, 0, []⟩], rfl, rfl, ⟨⟨⟨rfl, Nat.le_refl _, by omega, by simp⟩, fun _ => ⟨w.heap.size, 0, rfl, by simp, fun j v hv => ?_⟩⟩, fun r hr => by rw [List.mem_singleton.1 hr]; exact BR.nil _⟩⟩, alloc_bel _ _⟩
    rw [Nat.zero_add, (Blk.new w _ _).cell j]
    simpa [BRow.v] using hv
  · have HS : Hid (textsR ks = (textsS ks, 0)) := by unfold Hid textsR; rw [if_neg (by omega)]
    have hwi : (n : Int) ≤ 128 := by omega
    have h1i : (1 : Int) ≤ n := by omega
    have hne : ¬ (n : Int) = 0 := by omega
    have hlt : ¬ (128 : Int) < n := by omega
    have hle := textsS_le n ks hn h1
    have b0 := alloc_bel w (.cells #[.slice none 0 0] 119)
    have HF := Lib.hid (textFold_any w w.heap.size n ks A c [] (w.alloc (.cells #[.slice none 0 0] 119)) hn h1 (by omega) h b0 (TX.new w) (by simp; omega))
    generalize textsS ks = ts at HS HF hle
    generalize rootS ks = rt at HF
    rw [List.nil_append] at HF
    have HLE : Hid (ts.length ≤ 100000) := by unfold Hid; omega
    clear hn h hw hle
    go_enter Try.func17, Try.ntmps17
    go_wp2_with (go_at_call 63; refine (HF.out).mono ?_; rintro e w1 ⟨rfl, ht1, hk1, hb1⟩; obtain ⟨A1, c1, rs, hc1, hrs, hrr⟩ := ht1.rr HLE.out; have HRS := Lib.hid hrs; have HRR := Lib.hid hrr; have B1 := Lib.hid (b0.trans hb1); generalize hq : rs.length = q at hc1; have HQ := Lib.hid hq; clear hrs hrr ht1 hk1 hb1 hq)
    go_ret2
    rw [HS.out]
    exact ⟨⟨A1, c1, rs, by rw [HQ.out]; rfl, HRS.out, HRR.out⟩, B1.out⟩
end Go.Proofs.Ytinpiodfpnbllaa

/- The texts of a list: the reference's. -/
namespace Go.Proofs.Ytinpiodfpnbllaa
open Go.RowKit
set_option linter.unusedVariables false
set_option linter.unusedSimpArgs false

section
variable {md : Region.Mode} {ops : Array Oper} {Q : Exit → Act → World → Prop} {S : World → Prop} {fuel : Nat} {listed : Array Bool} {a : Act} {w : World}
/-- append to rows that the call owns, the only operation that may come up. -/
theorem hd_appendR (i : Nat) {oi : Oper} (s x : Operand) (hi : ops[i]? = some oi) (ho : oi.op = .call { callee := .builtin .append, args := #[s, x], argTypes := #[45, 45] }) (hg : oi.guard = none) (hr : Region.ready md ops listed = [i])
    (B : Nat) (A : Option Addr) (n c : Nat) (rs : List BRow) (hn : rs.length = n) (hs : a.eval s = .slice A n c) (hown : RO B w A c rs)
    (X : Option Addr) (m d : Nat) (news : List BRow) (hm : news.length = m) (hx : a.eval x = .slice X m d) (hsrc : Src w 1 X m (news.map BRow.v)) (hlen : n + m ≤ 1000000) (hB : B ≤ w.heap.size)
    (h : ∀ A' c' w', RO B w' A' c' (rs ++ news) → Below B w w' → w.grownBy w' (Value.ownBlock (.slice A n c)) → S w' ∧ wpAnyH Try.prog md ops Q S fuel (listed.setIfInBounds i true) (a.put oi.dst (.slice A' (n + m) c')) w') : wpAnyH Try.prog md ops Q S (fuel + 1) listed a w := by
  obtain ⟨i0, hi0, hz0, hz1, hz2⟩ := info_parts rows_info
  subst hn hm
  obtain ⟨A', c', w', hrun, h2, h3, h4⟩ := run_append_src (P := Try.prog) w B 45 oi.type 24 i0 (.slice none 0 0) 1 24 Try.underlying45 hi0 hz0 hz1 hz2 rfl (by omega) A rs.length c (rs.map BRow.v) hown X news.length d (news.map BRow.v) hsrc (by intro u hu; obtain ⟨r, _, rfl⟩ := List.mem_map.1 hu; rfl) (by simp only [maxLen]; omega) (by omega) hB
  refine hd_one i hi hg hr ?_
  refine Lib.wp_append_run w s x 45 45 ho _ _ hs hx _ w' hrun ?_
  refine h A' c' w' ?_ (grown_below (Below.refl _ _) hown h3 hB (Nat.le_refl _)) h3
  unfold RO
  rw [List.map_append, List.length_append]
  exact h2
end
/-- Texts that the call owns. -/
def TO (B : Nat) (w : World) (A : Option Addr) (c : Nat) (rs : List BRow) (ts : List (List UInt8)) : Prop := rs.map BRow.l = ts ∧ RO B w A c rs ∧ ∀ r ∈ rs, OB B w r.A r.c r.l
theorem TO.below {B : Nat} {w w' : World} {A : Option Addr} {c : Nat} {rs : List BRow} {ts : List (List UInt8)} (h : TO B w A c rs ts) (hb : Below w.heap.size w w') : TO B w' A c rs ts := ⟨h.1, h.2.1.below hb, fun r hr => (h.2.2 r hr).below hb⟩
theorem RO.le_ {B B' : Nat} {w : World} {A : Option Addr} {c : Nat} {rs : List BRow} (h : RO B w A c rs) (hB : B' ≤ B) : RO B' w A c rs :=
  ⟨h.1, h.2.elim Or.inl (fun ⟨g, cap, cur, hv, hg, r⟩ => Or.inr ⟨g, cap, cur, hv, Nat.le_trans hB hg, r⟩)⟩
theorem TO.le_ {B B' : Nat} {w : World} {A : Option Addr} {c : Nat} {rs : List BRow} {ts : List (List UInt8)} (h : TO B w A c rs ts) (hB : B' ≤ B) : TO B' w A c rs ts := ⟨h.1, h.2.1.le_ hB, fun r hr => (h.2.2 r hr).le_ hB⟩
theorem TO.len {B : Nat} {w : World} {A : Option Addr} {c : Nat} {rs : List BRow} {ts : List (List UInt8)} (h : TO B w A c rs ts) : rs.length = ts.length := by rw [← h.1, List.length_map]
theorem TO.rr {B : Nat} {w : World} {A : Option Addr} {c : Nat} {rs : List BRow} {ts : List (List UInt8)} (h : TO B w A c rs ts) (hl : ts.length ≤ 100000) (hb : ∀ t ∈ ts, t.length ≤ 1000) : RR w A c rs :=
  h.2.1.rr (by rw [h.len]; omega) fun r hr => (h.2.2 r hr).br (by have := hb r.l (by rw [← h.1]; exact List.mem_map.2 ⟨r, hr, rfl⟩); omega)
theorem RO.lit (B : Nat) (w : World) (r : BRow) (hB : B ≤ w.heap.size) : RO B (w.alloc (.cells #[r.v] 24)) (some ⟨w.heap.size, 0, none⟩) 1 [r] := by
  have h := World.ownsRow_lit (e := 24) (size := 1) w #[r.v] 1 hB (by simp [maxLen]) (by simp)
  unfold RO
  simpa using h
theorem textsS_short : ∀ (n : Nat) (l : List (List UInt8)), l.length = n → (∀ k ∈ l, k.length = 16) → ∀ t ∈ textsS l, t.length ≤ 1000 := by
  intro n
  induction n using Nat.strongRecOn with
  | _ n ih =>
    intro l hl hk t ht
    rcases Nat.lt_or_ge n 2 with h2 | h2
    · rcases Nat.lt_or_ge n 1 with h1 | h1
      · rw [List.eq_nil_of_length_eq_zero (show l.length = 0 by omega), textsS_nil, List.mem_singleton] at ht
        subst ht; simp
      · obtain ⟨x, rfl⟩ := List.length_eq_one_iff.1 (show l.length = 1 by omega)
        rw [textsS_one, List.mem_singleton] at ht
        subst ht
        have := hk x (by simp)
        simp [leafT, this]
    have s1 := splitS_lt h2
    have s2 := splitS_pos n
    rw [textsS_node (by omega), hl] at ht
    rcases List.mem_append.1 ht with ht | ht
    · exact ih (splitS n) s1 _ (by rw [List.length_take]; omega) (fun k h => hk k (List.mem_of_mem_take h)) t ht
    · rcases List.mem_append.1 ht with ht | ht
      · exact ih (n - splitS n) (by omega) _ (by rw [List.length_drop]; omega) (fun k h => hk k (List.mem_of_mem_drop h)) t ht
      · rw [List.mem_singleton.1 ht]
        simp [nodeT, rootS_length]

set_option maxHeartbeats 1000000 in
set_option maxRecDepth 100000 in
theorem refTexts_one (k : List UInt8) (A : Option Addr) (c : Nat) (w : World) (h : KR w A c [k]) :
    Calls Try.prog 69 #[.slice A 1 c] w fun e w' => (∃ A' c' rs, e = .returned (.slice A' rs.length c') ∧ TO w.heap.size w' A' c' rs (textsS [k])) ∧ Below w.heap.size w w' := by
  have hk : k.length = 16 := h.2 k (by simp)
  obtain ⟨b, off, rfl, hb, hr⟩ := h.first
  have HK := Lib.hid hk
  have HR := Lib.hid hr
  have HLT : Hid (∀ W, Calls Try.prog 126 #[.agg (cellsB k).toArray] W fun e w' => (∃ A c, e = .returned (.slice A 17 c) ∧ OB W.heap.size w' A c (leafT k)) ∧ Below W.heap.size W w') := fun W => refLeafText_any k W hk
  have HLL : Hid ((leafT k).length = 17) := by unfold Hid leafT; simp [hk]
  rw [textsS_one]
  generalize leafT k = t at HLT HLL ⊢
  clear hk hr h
  go_enter Try.func69, Try.ntmps69
  go_wp2_with (first
    | (refine wpList_load_mid rfl 23 (.tmp 14) rfl b off rfl (cellsB k) _ HR.out under_key rfl (key_info HK.out) ?_)
    | (go_at_call 126; refine (HLT.out _).mono ?_; rintro e w1 ⟨⟨A1, c1, rfl, ho1⟩, hb1⟩; have HO1 := Lib.hid ho1; have b1 := hb1; clear ho1 hb1))
  go_ret
  refine ⟨⟨_, 1, [⟨A1, c1, t⟩], rfl, rfl, ?_, fun r hr => ?_⟩, b1.alloc b1.size _⟩
  · have := RO.lit w.heap.size w1 ⟨A1, c1, t⟩ b1.size
    simpa only [BRow.v, HLL.out] using this
  · rw [List.mem_singleton.1 hr]
    exact HO1.out.below (alloc_bel _ _)

set_option maxHeartbeats 1000000 in
theorem refTexts_zero (A : Option Addr) (c : Nat) (w : World) :
    Calls Try.prog 69 #[.slice A 0 c] w fun e w' => (∃ A' c' rs, e = .returned (.slice A' rs.length c') ∧ TO w.heap.size w' A' c' rs (textsS [])) ∧ Below w.heap.size w w' := by
  rw [textsS_nil]
  go_enter Try.func69, Try.ntmps69
  go_wp2
  go_ret
  refine ⟨⟨_, 1, [⟨some ⟨w.heap.size, 0, none⟩, 0, []⟩], rfl, rfl, ?_, fun r hr => ?_⟩, alloc2_bel _ _ _⟩
  · have := RO.lit w.heap.size (w.alloc (.cells #[] 5)) ⟨some ⟨w.heap.size, 0, none⟩, 0, []⟩ (by simp)
    rw [World.size_alloc] at this
    exact this
  · rw [List.mem_singleton.1 hr]
    exact (OB.lit0 w.heap.size w (Nat.le_refl _)).below (alloc_bel _ _)

set_option maxHeartbeats 2000000 in
set_option maxRecDepth 100000 in
theorem refTextsOf_any (n : Nat) : ∀ (ks : List (List UInt8)) (A : Option Addr) (c : Nat) (w : World), ks.length = n → n ≤ 1000 → KR w A c ks →
    Calls Try.prog 69 #[.slice A n c] w fun e w' => (∃ A' c' rs, e = .returned (.slice A' rs.length c') ∧ TO w.heap.size w' A' c' rs (textsS ks)) ∧ Below w.heap.size w w' := by
  induction n using Nat.strongRecOn with
  | _ n ih =>
    intro ks A c w hn hbig h
    rcases Nat.lt_or_ge n 2 with h2 | h2
    · rcases Nat.lt_or_ge n 1 with h1 | h1
      · obtain rfl : n = 0 := by omega
        obtain rfl : ks = [] := List.eq_nil_of_length_eq_zero hn
        exact refTexts_zero A c w
      · obtain rfl : n = 1 := by omega
        obtain ⟨k, rfl⟩ := List.length_eq_one_iff.1 hn
        exact refTexts_one k A c w h
    have hs1 := splitS_pos n
    have hs2 := splitS_lt h2
    have hcl : n ≤ c := by have := Rd.le h.1; omega
    have hni : (2 : Int) ≤ (n : Int) := by omega
    have hnb : (n : Int) ≤ 1000 := by omega
    have hne0 : ¬ (n : Int) = 0 := by omega
    have hne1 : ¬ (n : Int) = 1 := by omega
    have HSP : Hid (∀ W, Calls Try.prog 127 #[.int .i64 (n : Int)] W fun e w' => e = .returned (.int .i64 ((splitS n : Nat) : Int)) ∧ W = w') := fun W => refSplit_any n W h2 (by omega)
    have HTEXT : Hid (textsS ks = textsS (ks.take (splitS n)) ++ (textsS (ks.drop (splitS n)) ++ [nodeT (rootS (ks.take (splitS n))) (rootS (ks.drop (splitS n)))])) := by have := textsS_node (l := ks) (by omega); rw [hn] at this; exact this
    have hT1 := textsS_le (splitS n) (ks.take (splitS n)) (by rw [List.length_take]; omega) hs1
    have hT2 := textsS_le (n - splitS n) (ks.drop (splitS n)) (by rw [List.length_drop]; omega) (by omega)
    have HLO : Hid (∀ W, Below w.heap.size w W → Calls Try.prog 69 #[.slice A (splitS n) c] W fun e w' => (∃ A' c' rs, e = .returned (.slice A' rs.length c') ∧ TO W.heap.size w' A' c' rs (textsS (ks.take (splitS n)))) ∧ Below W.heap.size W w') := fun W hW => ih (splitS n) hs2 _ A c W (by rw [List.length_take]; omega) (by omega) ((h.below hW).take _ (by omega))
    have HHI : Hid (∀ W, Below w.heap.size w W → Calls Try.prog 69 #[.slice (dropK A (splitS n) c) (n - splitS n) (c - splitS n)] W fun e w' => (∃ A' c' rs, e = .returned (.slice A' rs.length c') ∧ TO W.heap.size w' A' c' rs (textsS (ks.drop (splitS n)))) ∧ Below W.heap.size W w') := fun W hW => ih (n - splitS n) (by omega) _ _ _ W (by rw [List.length_drop]; omega) (by omega) ((h.below hW).drop _ (by omega))
    have HR1 : Hid (∀ W, Below w.heap.size w W → Calls Try.prog 62 #[.slice A (splitS n) c] W fun e w' => e = .returned (.agg (cellsB (rootS (ks.take (splitS n)))).toArray) ∧ Below W.heap.size W w') := fun W hW => refRootOf_any (splitS n) _ _ _ W (by rw [List.length_take]; omega) (by omega) ((h.below hW).take _ (by omega))
    have HR2 : Hid (∀ W, Below w.heap.size w W → Calls Try.prog 62 #[.slice (dropK A (splitS n) c) (n - splitS n) (c - splitS n)] W fun e w' => e = .returned (.agg (cellsB (rootS (ks.drop (splitS n)))).toArray) ∧ Below W.heap.size W w') := fun W hW => refRootOf_any (n - splitS n) _ _ _ W (by rw [List.length_drop]; omega) (by omega) ((h.below hW).drop _ (by omega))
    have hL1 := rootS_length (ks.take (splitS n))
    have hL2 := rootS_length (ks.drop (splitS n))
    have hsl1 := fun W => slice_keys_to W A n c (splitS n) (by omega)
    have hsl2 := fun W => slice_keys_from W A n c (splitS n) (by omega)
    generalize splitS n = k at HSP HTEXT HLO HHI HR1 HR2 hL1 hL2 hsl1 hsl2 hs1 hs2 hT1 hT2
    generalize rootS (ks.take k) = r1 at HTEXT HR1 hL1
    generalize rootS (ks.drop k) = r2 at HTEXT HR2 hL2
    generalize textsS (ks.take k) = x1 at HTEXT HLO hT1
    generalize textsS (ks.drop k) = x2 at HTEXT HHI hT2
    have HNT : Hid (∀ W, Calls Try.prog 128 #[.agg (cellsB r1).toArray, .agg (cellsB r2).toArray] W fun e w' => (∃ A c, e = .returned (.slice A 33 c) ∧ OB W.heap.size w' A c (nodeT r1 r2)) ∧ Below W.heap.size W w') := fun W => refNodeText_any r1 r2 W hL1 hL2
    have HNL : Hid ((nodeT r1 r2).length = 33) := by unfold Hid nodeT; simp [hL1, hL2]
    generalize nodeT r1 r2 = nt at HTEXT HNT HNL
    have b0 : Below w.heap.size w w := Below.refl _ _
    clear ih h hn hbig hL1 hL2
    go_enter Try.func69, Try.ntmps69
    go_wp2_with (go_at_call 127; refine (HSP.out _).mono ?_; rintro e w1 ⟨rfl, rfl⟩)
    refine wp_region_noPanic ?_
    refine wp_region_held_drew (S := fun _ => True) (by kernel_rfl) trivial (fun hS => ?_)
    refine hd_take 0 (_) rfl rfl (by kernel_rfl) (by kernel_rfl) (by kernel_rfl) (fun _ _ _ h => h) (fun w _ => by go_simp <;> rfl) hS ?_
    refine hd_take 1 (_) rfl rfl (by kernel_rfl) (by kernel_rfl) (by kernel_rfl) (fun _ _ _ h => h) (fun w _ => by go_simp <;> rfl) hS ?_
    refine hd_take 4 (_) rfl rfl (by kernel_rfl) (by kernel_rfl) (by kernel_rfl) (fun _ _ _ h => h) (fun w _ => by go_simp <;> rfl) hS ?_
    refine hd_take 5 (_) rfl rfl (by kernel_rfl) (by kernel_rfl) (by kernel_rfl) (fun _ _ _ h => h) (fun w _ => by go_simp <;> rfl) hS ?_
    simp only [List.getElem_toArray, List.getElem_cons_succ, List.getElem_cons_zero, Act.put, List.setIfInBounds_toArray, List.set_cons_zero, List.set_cons_succ]
    refine hd_take 2 (_) rfl rfl (by kernel_rfl) (by kernel_rfl) (by kernel_rfl) (fun _ _ _ h => h) (fun w _ => by go_simp <;> rfl) hS ?_
    refine hd_take 6 (_) rfl rfl (by kernel_rfl) (by kernel_rfl) (by kernel_rfl) (fun _ _ _ h => h) (fun w _ => by go_simp <;> rfl) hS ?_
    simp only [List.getElem_toArray, List.getElem_cons_succ, List.getElem_cons_zero, Act.put, List.setIfInBounds_toArray, List.set_cons_zero, List.set_cons_succ]
    refine hd_calls 3 69 #[.slice A k c] rfl rfl (by kernel_rfl) (by go_simp) ((HLO.out _ b0.drew).mono ?_)
    rintro e w3 ⟨⟨A3, c3, rs3, rfl, ho3⟩, hb3⟩
    have b3 := bel_on b0.drew hb3
    refine ⟨_, rfl, trivial, ?_⟩
    simp only [List.getElem_toArray, List.getElem_cons_succ, List.getElem_cons_zero, Act.put, List.setIfInBounds_toArray, List.set_cons_zero, List.set_cons_succ]
    refine hd_calls 7 69 #[.slice (dropK A k c) (n - k) (c - k)] rfl rfl (by kernel_rfl) (by go_simp) ((HHI.out _ b3).mono ?_)
    rintro e w4 ⟨⟨A4, c4, rs4, rfl, ho4⟩, hb4⟩
    have b4 := bel_on b3 hb4
    refine ⟨_, rfl, trivial, ?_⟩
    simp only [List.getElem_toArray, List.getElem_cons_succ, List.getElem_cons_zero, Act.put, List.setIfInBounds_toArray, List.set_cons_zero, List.set_cons_succ]
    have ho3' := ho3.below hb4
    have hz4 : w.drew.heap.size ≤ w4.heap.size := b4.size
    have hz3 : w.drew.heap.size ≤ w3.heap.size := b3.size
    have ho4' := ho4.le_ hz3
    have l3 := ho3.len
    have l4 := ho4.len
    obtain ⟨q3, hq3⟩ : ∃ q, rs3.length = q := ⟨_, rfl⟩
    obtain ⟨q4, hq4⟩ : ∃ q, rs4.length = q := ⟨_, rfl⟩
    have hsrc : Src w4 1 A4 q4 (rs4.map BRow.v) := by have := (Rd.of_own ho4.2.1 (by omega)).src; rw [hq4] at this; exact this
    rw [hq3, hq4]
    refine hd_appendR 8 (.tmp 24) (.tmp 28) rfl rfl rfl (by kernel_rfl) w.drew.heap.size A3 q3 c3 rs3 hq3 rfl ho3'.2.1 A4 q4 c4 rs4 hq4 rfl hsrc (by omega) hz4 ?_
    intro A5 c5 w5 ho5 hb5 hg5
    rw [← hq3] at hg5
    have hto5 : TO w.drew.heap.size w5 A5 c5 (rs3 ++ rs4) (x1 ++ x2) := ⟨by rw [List.map_append, ho3.1, ho4.1], ho5, fun r hr => by
      rcases List.mem_append.1 hr with hr | hr
      · exact own_kept (ho3'.2.2 r hr) ho3'.2.1 (by decide) hg5
      · exact own_kept (ho4'.2.2 r hr) ho3'.2.1 (by decide) hg5⟩
    have b5 : Below w.heap.size w w5 := b4.trans hb5
    refine ⟨trivial, ?_⟩
    simp only [List.getElem_toArray, List.getElem_cons_succ, List.getElem_cons_zero, Act.put, List.setIfInBounds_toArray, List.set_cons_zero, List.set_cons_succ]
    refine hd_take 9 (.slice A5 (q3 + q4) c5) rfl rfl (by kernel_rfl) (by kernel_rfl) (by kernel_rfl) (fun _ _ _ h => h) (fun w _ => by go_simp) trivial ?_
    refine wpAnyH_done (by kernel_rfl) (NoPanic.normal ?_) _
    simp only [List.getElem_toArray, List.getElem_cons_succ, List.getElem_cons_zero, Act.put, List.setIfInBounds_toArray, List.set_cons_zero, List.set_cons_succ]
    have HTO5 := Lib.hid hto5
    have HB5 := Lib.hid b5
    have HQ : Hid ((rs3 ++ rs4).length = q3 + q4) := by unfold Hid; rw [List.length_append, hq3, hq4]
    have hqb : q3 + q4 ≤ 2000 := by omega
    generalize rs3 ++ rs4 = rs5 at HTO5 HQ
    generalize q3 + q4 = q5 at HQ hqb ⊢
    clear hto5 ho5 ho3 ho3' ho4 ho4' hsrc hg5 hb5 hb4 hb3 b5 b4 b3 l3 l4 hq3 hq4 hz3 hz4
    go_wp2_with fail
    refine wp_region_noPanic ?_
    refine wp_region_held_drew (S := fun _ => True) (by kernel_rfl) trivial (fun hS => ?_)
    refine hd_take 0 (_) rfl rfl (by kernel_rfl) (by kernel_rfl) (by kernel_rfl) (fun _ _ _ h => h) (fun w _ => by go_simp <;> rfl) hS ?_
    refine hd_take 1 (_) rfl rfl (by kernel_rfl) (by kernel_rfl) (by kernel_rfl) (fun _ _ _ h => h) (fun w _ => by go_simp <;> rfl) hS ?_
    refine hd_take 2 (_) rfl rfl (by kernel_rfl) (by kernel_rfl) (by kernel_rfl) (fun _ _ _ h => h) (fun w _ => by go_simp <;> rfl) hS ?_
    refine hd_take 5 (_) rfl rfl (by kernel_rfl) (by kernel_rfl) (by kernel_rfl) (fun _ _ _ h => h) (fun w _ => by go_simp <;> rfl) hS ?_
    refine hd_take 6 (_) rfl rfl (by kernel_rfl) (by kernel_rfl) (by kernel_rfl) (fun _ _ _ h => h) (fun w _ => by go_simp <;> rfl) hS ?_
    simp only [List.getElem_toArray, List.getElem_cons_succ, List.getElem_cons_zero, Act.put, List.setIfInBounds_toArray, List.set_cons_zero, List.set_cons_succ]
    refine hd_take 3 (_) rfl rfl (by kernel_rfl) (by kernel_rfl) (by kernel_rfl) (fun _ _ _ h => h) (fun w _ => by go_simp <;> rfl) hS ?_
    refine hd_take 7 (_) rfl rfl (by kernel_rfl) (by kernel_rfl) (by kernel_rfl) (fun _ _ _ h => h) (fun w _ => by go_simp <;> rfl) hS ?_
    simp only [List.getElem_toArray, List.getElem_cons_succ, List.getElem_cons_zero, Act.put, List.setIfInBounds_toArray, List.set_cons_zero, List.set_cons_succ]
    refine hd_calls 4 62 #[.slice A k c] rfl rfl (by kernel_rfl) (by go_simp) ((HR1.out _ HB5.out.drew).mono ?_)
    rintro e w6 ⟨rfl, hb6⟩
    have b6 := bel_on HB5.out.drew hb6
    refine ⟨_, rfl, trivial, ?_⟩
    simp only [List.getElem_toArray, List.getElem_cons_succ, List.getElem_cons_zero, Act.put, List.setIfInBounds_toArray, List.set_cons_zero, List.set_cons_succ]
    refine hd_calls 8 62 #[.slice (dropK A k c) (n - k) (c - k)] rfl rfl (by kernel_rfl) (by go_simp) ((HR2.out _ b6).mono ?_)
    rintro e w7 ⟨rfl, hb7⟩
    have b7 := bel_on b6 hb7
    refine ⟨_, rfl, trivial, ?_⟩
    simp only [List.getElem_toArray, List.getElem_cons_succ, List.getElem_cons_zero, Act.put, List.setIfInBounds_toArray, List.set_cons_zero, List.set_cons_succ]
    refine hd_calls 9 128 #[.agg (cellsB r1).toArray, .agg (cellsB r2).toArray] rfl rfl (by kernel_rfl) (by go_simp) ((HNT.out _).mono ?_)
    rintro e w8 ⟨⟨A8, c8, rfl, ho8⟩, hb8⟩
    have b8 := bel_on b7 hb8
    refine ⟨_, rfl, trivial, ?_⟩
    simp only [List.getElem_toArray, List.getElem_cons_succ, List.getElem_cons_zero, Act.put, List.setIfInBounds_toArray, List.set_cons_zero, List.set_cons_succ]
    have to8 := ((((HTO5.out.below (Below.refl _ _).drew).below hb6).below hb7).below hb8).below (alloc_bel w8 (.cells #[.slice A8 33 c8] 24))
    have o9 := (ho8.below (alloc_bel w8 (.cells #[.slice A8 33 c8] 24))).le_ (show w.drew.heap.size ≤ w7.heap.size from b7.size)
    have b9 : Below w.heap.size w (w8.alloc (.cells #[.slice A8 33 c8] 24)) := b8.alloc b8.size _
    have hsrc := src_one w8 (.slice A8 33 c8) 24
    refine hd_sole 10 (by kernel_rfl) (op_run (.slice (some ⟨w8.heap.size, 0, none⟩) 1 1) (w8.alloc (.cells #[.slice A8 33 c8] 24)) rfl rfl (by go_simp) ⟨trivial, ?_⟩)
    simp only [List.getElem_toArray, List.getElem_cons_succ, List.getElem_cons_zero, Act.put, List.setIfInBounds_toArray, List.set_cons_zero, List.set_cons_succ]
    refine hd_appendR 11 (.tmp 30) (.tmp 40) rfl rfl rfl (by kernel_rfl) w.drew.heap.size A5 q5 c5 rs5 HQ.out rfl to8.2.1 (some ⟨w8.heap.size, 0, none⟩) 1 1 [⟨A8, c8, nt⟩] rfl rfl (by simpa only [List.map_cons, List.map_nil, BRow.v, HNL.out] using hsrc) (by omega) b9.size ?_
    intro A10 c10 w10 ho10 hb10 hg10
    rw [← HQ.out] at hg10
    have hto10 : TO w.drew.heap.size w10 A10 c10 (rs5 ++ [⟨A8, c8, nt⟩]) ((x1 ++ x2) ++ [nt]) := ⟨by rw [List.map_append, to8.1]; rfl, ho10, fun r hr => by
      rcases List.mem_append.1 hr with hr | hr
      · exact own_kept (to8.2.2 r hr) to8.2.1 (by decide) hg10
      · rw [List.mem_singleton.1 hr]; exact own_kept o9 to8.2.1 (by decide) hg10⟩
    have b10 : Below w.heap.size w w10 := b9.trans hb10
    refine ⟨trivial, ?_⟩
    simp only [List.getElem_toArray, List.getElem_cons_succ, List.getElem_cons_zero, Act.put, List.setIfInBounds_toArray, List.set_cons_zero, List.set_cons_succ]
    refine hd_take 12 (.slice A10 (q5 + 1) c10) rfl rfl (by kernel_rfl) (by kernel_rfl) (by kernel_rfl) (fun _ _ _ h => h) (fun w _ => by go_simp) trivial ?_
    refine wpAnyH_done (by kernel_rfl) (NoPanic.normal ?_) _
    simp only [List.getElem_toArray, List.getElem_cons_succ, List.getElem_cons_zero, Act.put, List.setIfInBounds_toArray, List.set_cons_zero, List.set_cons_succ]
    have HTO10 := Lib.hid hto10
    have HB10 := Lib.hid b10
    have HQ10 : Hid ((rs5 ++ [(⟨A8, c8, nt⟩ : BRow)]).length = q5 + 1) := by unfold Hid; rw [List.length_append, HQ.out]; rfl
    clear hto10 ho10 to8 o9 hsrc hg10 hb10 b10 b9 b8 ho8 hb8
    go_wp2_with fail
    go_ret
    exact ⟨⟨A10, c10, _, by rw [HQ10.out]; rfl, by rw [HTEXT.out]; have := HTO10.out; rw [List.append_assoc] at this; exact this⟩, HB10.out⟩

set_option maxHeartbeats 1000000 in
theorem refTexts_any (ks : List (List UInt8)) (A : Option Addr) (c : Nat) (w : World) {n : Nat} (hn : ks.length = n) (h : KR w A c ks) :
    Calls Try.prog 18 #[.slice A n c] w fun e w' => TxEnd (textsR ks).1 (textsR ks).2 e w' ∧ Below w.heap.size w w' := by
  have hnl : (n : Int) ≤ 140737488351232 := by have := h.len; omega
  rcases Nat.lt_or_ge 128 n with hw | hw
  · have HS : Hid (textsR ks = ([], 4)) := by unfold Hid textsR; rw [if_pos (by omega)]
    have hbi : (128 : Int) < n := by omega
    clear hn h hw
    go_enter Try.func18, Try.ntmps18
    go_wp2
    go_ret2
    rw [HS.out]
    exact ⟨⟨none, 0, [], rfl, rfl, RR.nil _⟩, Below.refl _ _⟩
  · have HS : Hid (textsR ks = (textsS ks, 0)) := by unfold Hid textsR; rw [if_neg (by omega)]
    have hwi : (n : Int) ≤ 128 := by omega
    have hle : (textsS ks).length ≤ 100000 := by
      rcases Nat.lt_or_ge n 1 with h1 | h1
      · rw [List.eq_nil_of_length_eq_zero (show ks.length = 0 by omega), textsS_nil]; simp
      · have := textsS_le n ks hn h1; omega
    have HLE := Lib.hid hle
    have HSH := Lib.hid (textsS_short n ks hn h.2)
    have HF := Lib.hid (refTextsOf_any n ks A c w hn (by omega) h)
    generalize textsS ks = ts at HS HF HLE HSH
    clear hn h hw hle
    go_enter Try.func18, Try.ntmps18
    go_wp2_with (go_at_call 69; refine (HF.out).mono ?_; rintro e w1 ⟨⟨A1, c1, rs, rfl, ht1⟩, hb1⟩; have HT1 := Lib.hid ht1; have B1 := Lib.hid hb1; generalize hq : rs.length = q; have HQ := Lib.hid hq; clear ht1 hb1 hq)
    go_ret2
    rw [HS.out]
    exact ⟨⟨A1, c1, rs, by rw [HQ.out]; rfl, HT1.out.1, HT1.out.rr HLE.out HSH.out⟩, B1.out⟩
end Go.Proofs.Ytinpiodfpnbllaa

/- Two equal lists of keys are the same. -/
namespace Go.Proofs.Ytinpiodfpnbllaa
open Go.RowKit
set_option linter.unusedVariables false
attribute [local go_sem] equalIn_keys

set_option maxHeartbeats 1000000 in
set_option maxRecDepth 100000 in
theorem sameKeys_any (ks : List (List UInt8)) (A : Option Addr) (c : Nat) (B : Option Addr) (d : Nat) (w : World) {n : Nat} (hn : ks.length = n) (h : KR w A c ks) (h' : KR w B d ks) :
    Calls Try.prog 25 #[.slice A n c, .slice B n d] w fun e w' => e = .returned (.bool true) ∧ Below w.heap.size w w' := by
  have hnl : (n : Int) ≤ 140737488351232 := by have := h.len; omega
  have HN := Lib.hid hn
  have H := Lib.hid h
  have H' := Lib.hid h'
  clear hn h h'
  go_enter Try.func25, Try.ntmps25
  go_wp2_with fail
  go_loopw [5] (fun vi wr => ∃ i : Nat, i ≤ n ∧ vi = .int .i64 (i : Int) ∧ Below w.heap.size w wr) (fun vi _ => n - (intOf vi).toNat)
  case atStart => exact ⟨0, by omega, rfl, Below.refl _ _⟩
  case round =>
    obtain ⟨i, hi, rfl, hbel⟩ := hrel
    by_cases hlt : i < n
    · have hii : (i : Int) < n := by omega
      have hil : i < ks.length := by have := HN.out; omega
      obtain ⟨g1, o1, rfl, hg1, hr1⟩ := (H.out.below hbel).at_ hil
      obtain ⟨g2, o2, rfl, hg2, hr2⟩ := (H'.out.below hbel).at_ hil
      have hk : ks[i].length = 16 := H.out.2 _ (List.getElem_mem hil)
      have HR1 := Lib.hid (range_below hr1 (Below.refl _ _).drew)
      have HR2 := Lib.hid (range_below hr2 (Below.refl _ _).drew)
      obtain ⟨k, hkk⟩ : ∃ k, ks[i] = k := ⟨_, rfl⟩
      rw [hkk] at HR1 HR2 hk
      have HK := Lib.hid hk
      have hz : ∀ W, (Op.equalIn 10000 23 (.agg (cellsB k).toArray) (.agg (cellsB k).toArray)).run Try.prog W = .ok true W := fun W => by rw [equalIn_keys W k k HK.out HK.out]; simp
      clear hr1 hr2 hk hkk hil
      go_wp2_with fail
      refine wp_region_noPanic ?_
      refine wp_region_held_drew (S := fun w' => w'.rangeAt g1 (o1 + i * 16) (cellsB k) ∧ w'.rangeAt g2 (o2 + i * 16) (cellsB k)) (by kernel_rfl) ⟨HR1.out, HR2.out⟩ (fun hS => ?_)
      refine hd_take 0 (.slice (some ⟨g1, o1, none⟩) n c) rfl rfl (by kernel_rfl) (by kernel_rfl) (by kernel_rfl) (fun _ _ _ h => h) (fun w _ => by go_simp) hS ?_
      refine hd_take 1 (.int .i64 (i : Int)) rfl rfl (by kernel_rfl) (by kernel_rfl) (by kernel_rfl) (fun _ _ _ h => h) (fun w _ => by go_simp) hS ?_
      refine hd_take 4 (.slice (some ⟨g2, o2, none⟩) n d) rfl rfl (by kernel_rfl) (by kernel_rfl) (by kernel_rfl) (fun _ _ _ h => h) (fun w _ => by go_simp) hS ?_
      refine hd_take 5 (.int .i64 (i : Int)) rfl rfl (by kernel_rfl) (by kernel_rfl) (by kernel_rfl) (fun _ _ _ h => h) (fun w _ => by go_simp) hS ?_
      simp only [List.getElem_toArray, List.getElem_cons_succ, List.getElem_cons_zero, Act.put, List.setIfInBounds_toArray, List.set_cons_zero, List.set_cons_succ]
      refine hd_take 2 (.pointer (some ⟨g1, o1 + i * 16, none⟩)) rfl rfl (by kernel_rfl) (by kernel_rfl) (by kernel_rfl) (fun _ _ _ h => h) (fun w _ => by go_simp) hS ?_
      refine hd_take 6 (.pointer (some ⟨g2, o2 + i * 16, none⟩)) rfl rfl (by kernel_rfl) (by kernel_rfl) (by kernel_rfl) (fun _ _ _ h => h) (fun w _ => by go_simp) hS ?_
      simp only [List.getElem_toArray, List.getElem_cons_succ, List.getElem_cons_zero, Act.put, List.setIfInBounds_toArray, List.set_cons_zero, List.set_cons_succ]
      refine hd_load 3 g1 (o1 + i * 16) (cellsB k) _ _ rfl rfl rfl (by kernel_rfl) (by kernel_rfl) (by kernel_rfl) (fun _ _ _ h => h) rfl (fun w hw => hw.1) under_key rfl (key_info HK.out) hS ?_
      simp only [List.getElem_toArray, List.getElem_cons_succ, List.getElem_cons_zero, Act.put, List.setIfInBounds_toArray, List.set_cons_zero, List.set_cons_succ]
      refine hd_load 7 g2 (o2 + i * 16) (cellsB k) _ _ rfl rfl rfl (by kernel_rfl) (by kernel_rfl) (by kernel_rfl) (fun _ _ _ h => h) rfl (fun w hw => hw.2) under_key rfl (key_info HK.out) hS ?_
      simp only [List.getElem_toArray, List.getElem_cons_succ, List.getElem_cons_zero, Act.put, List.setIfInBounds_toArray, List.set_cons_zero, List.set_cons_succ]
      refine hd_take 8 (.bool false) rfl rfl (by kernel_rfl) (by kernel_rfl) (by kernel_rfl) (fun _ _ _ h => h) (fun w _ => by go_simp) hS ?_
      refine wpAnyH_done (by kernel_rfl) (NoPanic.normal ?_) _
      simp only [List.getElem_toArray, List.getElem_cons_succ, List.getElem_cons_zero, Act.put, List.setIfInBounds_toArray, List.set_cons_zero, List.set_cons_succ]
      go_wp2_with fail
      go_roundw
      case rel => exact ⟨i + 1, by omega, by go_num, hbel.drew⟩
      case measure => simp [intOf]; omega
    · obtain rfl : i = n := by omega
      have hii : (i : Int) ≤ i := Int.le_refl _
      go_wp2_with fail
      go_ret
      exact ⟨rfl, hbel⟩
end Go.Proofs.Ytinpiodfpnbllaa

/- Equal lists of texts, and equal proofs, are the same. -/
namespace Go.Proofs.Ytinpiodfpnbllaa
open Go.RowKit
set_option linter.unusedVariables false
set_option linter.unusedSimpArgs false

set_option maxHeartbeats 1000000 in
set_option maxRecDepth 100000 in
theorem sameTexts_any (ts : List (List UInt8)) (A : Option Addr) (c : Nat) (rs : List BRow) (B : Option Addr) (d : Nat) (ss : List BRow) (w : World) {n m : Nat} (hn : rs.length = n) (hm : ss.length = m) (h1 : rs.map BRow.l = ts) (h2 : ss.map BRow.l = ts) (h : RR w A c rs) (h' : RR w B d ss) :
    Calls Try.prog 19 #[.slice A n c, .slice B m d] w fun e w' => e = .returned (.bool true) ∧ Below w.heap.size w w' := by
  have hnl : (n : Int) ≤ 140737488351232 := by have := h.1.len; omega
  obtain rfl : m = n := by rw [← hm, ← hn, ← List.length_map (f := BRow.l), h2, ← h1, List.length_map]
  have HN := Lib.hid hn
  have HM := Lib.hid hm
  have H := Lib.hid h
  have H' := Lib.hid h'
  have H1 := Lib.hid h1
  have H2 := Lib.hid h2
  clear hn hm h h' h1 h2
  go_enter Try.func19, Try.ntmps19
  go_wp2_with fail
  go_loopw [5] (fun vi wr => ∃ i : Nat, i ≤ m ∧ vi = .int .i64 (i : Int) ∧ Below w.heap.size w wr) (fun vi _ => m - (intOf vi).toNat)
  case atStart => exact ⟨0, by omega, rfl, Below.refl _ _⟩
  case round =>
    obtain ⟨i, hi, rfl, hbel⟩ := hrel
    by_cases hlt : i < m
    · have hii : (i : Int) < m := by omega
      obtain ⟨b1, o1, r1, rfl, hb1, hr1, hc1, hl1⟩ := (H.out.on hbel).cellAt (i := i) (by have := HN.out; omega)
      obtain ⟨b2, o2, r2, rfl, hb2, hr2, hc2, hl2⟩ := (H'.out.on hbel).cellAt (i := i) (by have := HM.out; omega)
      have he : r1.l = r2.l := by
        have e1 : ts[i]? = some r1.l := by rw [← H1.out, List.getElem?_map, hr1]; rfl
        have e2 : ts[i]? = some r2.l := by rw [← H2.out, List.getElem?_map, hr2]; rfl
        rw [e1] at e2
        injection e2
      obtain ⟨A1, c1, l1⟩ := r1
      obtain ⟨A2, c2, l2⟩ := r2
      simp only at he hc1 hl1 hc2 hl2
      subst he
      obtain ⟨q, hq⟩ : ∃ q, l1.length = q := ⟨_, rfl⟩
      rw [hq] at hc1 hc2
      have HQ := Lib.hid hq
      have HC1 := Lib.hid hc1
      have HC2 := Lib.hid hc2
      have HL1 := Lib.hid hl1
      have HL2 := Lib.hid hl2
      generalize hstr : strB l1 = s1
      have HST := Lib.hid hstr
      clear hc1 hc2 hl1 hl2 hr1 hr2 hq hstr
      go_wp2_with fail
      refine wp_region_noPanic ?_
      refine wp_region_held_drew (S := fun w' => w'.cell? ⟨b1, o1 + i, none⟩ = some (.slice A1 q c1) ∧ w'.cell? ⟨b2, o2 + i, none⟩ = some (.slice A2 q c2) ∧ BR w' A1 c1 l1 ∧ BR w' A2 c2 l1) (by kernel_rfl) ⟨HC1.out, HC2.out, HL1.out.below (Below.refl _ _).drew, HL2.out.below (Below.refl _ _).drew⟩ (fun hS => ?_)
      refine hd_take 0 (_) rfl rfl (by kernel_rfl) (by kernel_rfl) (by kernel_rfl) (fun _ _ _ h => h) (fun w _ => by go_simp <;> rfl) hS ?_
      refine hd_take 1 (_) rfl rfl (by kernel_rfl) (by kernel_rfl) (by kernel_rfl) (fun _ _ _ h => h) (fun w _ => by go_simp <;> rfl) hS ?_
      refine hd_take 5 (_) rfl rfl (by kernel_rfl) (by kernel_rfl) (by kernel_rfl) (fun _ _ _ h => h) (fun w _ => by go_simp <;> rfl) hS ?_
      refine hd_take 6 (_) rfl rfl (by kernel_rfl) (by kernel_rfl) (by kernel_rfl) (fun _ _ _ h => h) (fun w _ => by go_simp <;> rfl) hS ?_
      simp only [List.getElem_toArray, List.getElem_cons_succ, List.getElem_cons_zero, Act.put, List.setIfInBounds_toArray, List.set_cons_zero, List.set_cons_succ]
      refine hd_take 2 (_) rfl rfl (by kernel_rfl) (by kernel_rfl) (by kernel_rfl) (fun _ _ _ h => h) (fun w _ => by go_simp <;> rfl) hS ?_
      refine hd_take 7 (_) rfl rfl (by kernel_rfl) (by kernel_rfl) (by kernel_rfl) (fun _ _ _ h => h) (fun w _ => by go_simp <;> rfl) hS ?_
      simp only [List.getElem_toArray, List.getElem_cons_succ, List.getElem_cons_zero, Act.put, List.setIfInBounds_toArray, List.set_cons_zero, List.set_cons_succ]
      refine hd_take 3 (.slice A1 q c1) rfl rfl (by kernel_rfl) (by kernel_rfl) (by kernel_rfl) (fun _ _ _ h => h) (fun w hw => by have hx := hw.1; simp [go_sem, hx]) hS ?_
      refine hd_take 8 (.slice A2 q c2) rfl rfl (by kernel_rfl) (by kernel_rfl) (by kernel_rfl) (fun _ _ _ h => h) (fun w hw => by have hx := hw.2.1; simp [go_sem, hx]) hS ?_
      simp only [List.getElem_toArray, List.getElem_cons_succ, List.getElem_cons_zero, Act.put, List.setIfInBounds_toArray, List.set_cons_zero, List.set_cons_succ]
      refine hd_take 4 (.string s1) rfl rfl (by kernel_rfl) (by kernel_rfl) (by kernel_rfl) (fun _ _ _ h => h) (fun w hw => by have hx := run_string_br hw.2.2.1 q HQ.out; rw [HST.out] at hx; simp [execOp, Act.eval, Act.put, Sem.run_bind, hx]) hS ?_
      refine hd_take 9 (.string s1) rfl rfl (by kernel_rfl) (by kernel_rfl) (by kernel_rfl) (fun _ _ _ h => h) (fun w hw => by have hx := run_string_br hw.2.2.2 q HQ.out; rw [HST.out] at hx; simp [execOp, Act.eval, Act.put, Sem.run_bind, hx]) hS ?_
      simp only [List.getElem_toArray, List.getElem_cons_succ, List.getElem_cons_zero, Act.put, List.setIfInBounds_toArray, List.set_cons_zero, List.set_cons_succ]
      refine hd_take 10 (.bool false) rfl rfl (by kernel_rfl) (by kernel_rfl) (by kernel_rfl) (fun _ _ _ h => h) (fun w _ => by go_simp) hS ?_
      refine wpAnyH_done (by kernel_rfl) (NoPanic.normal ?_) _
      simp only [List.getElem_toArray, List.getElem_cons_succ, List.getElem_cons_zero, Act.put, List.setIfInBounds_toArray, List.set_cons_zero, List.set_cons_succ]
      go_wp2_with fail
      go_roundw
      case rel => exact ⟨i + 1, by omega, by go_num, hbel.drew⟩
      case measure => simp [intOf]; omega
    · obtain rfl : i = m := by omega
      have hii : (i : Int) ≤ i := Int.le_refl _
      go_wp2_with fail
      go_ret
      exact ⟨rfl, hbel⟩

set_option maxHeartbeats 1000000 in
set_option maxRecDepth 100000 in
theorem sameProof_any (a b : Int) (P : List (List UInt8)) (A : Option Addr) (c : Nat) (B : Option Addr) (d : Nat) (w : World) {n : Nat} (hn : P.length = n) (h : KR w A c P) (h' : KR w B d P) :
    Calls Try.prog 22 #[.agg (prC a b A n c).toArray, .agg (prC a b B n d).toArray] w fun e w' => e = .returned (.bool true) ∧ Below w.heap.size w w' := by
  have b0 := alloc2_bel w (.cells #[.int .i64 a, .int .i64 b, .slice A n c] 52) (.cells #[.int .i64 a, .int .i64 b, .slice B n d] 52)
  have HS : Hid (Calls Try.prog 25 #[.slice A n c, .slice B n d] ((w.alloc (.cells #[.int .i64 a, .int .i64 b, .slice A n c] 52)).alloc (.cells #[.int .i64 a, .int .i64 b, .slice B n d] 52)) fun e w' => e = .returned (.bool true) ∧ Below (((w.alloc (.cells #[.int .i64 a, .int .i64 b, .slice A n c] 52)).alloc (.cells #[.int .i64 a, .int .i64 b, .slice B n d] 52))).heap.size ((w.alloc (.cells #[.int .i64 a, .int .i64 b, .slice A n c] 52)).alloc (.cells #[.int .i64 a, .int .i64 b, .slice B n d] 52)) w') := sameKeys_any P A c B d _ hn (h.below b0) (h'.below b0)
  clear hn h h'
  unfold prC
  go_enter Try.func22, Try.ntmps22
  go_wp2_with (go_at_call 25; refine HS.out.mono ?_; rintro e w1 ⟨rfl, hb1⟩; have b1 := bel_on b0 hb1)
  go_ret
  exact ⟨rfl, b1⟩
end Go.Proofs.Ytinpiodfpnbllaa

/- The law AuditTrees: the walk. -/
namespace Go.Proofs.Ytinpiodfpnbllaa
open Go.RowKit
set_option linter.unusedVariables false
set_option linter.unusedSimpArgs false
attribute [local go_sem] run_storeCells_key run_storeCells_new

theorem wpList_append_keys (w : World) {ops : Array Oper} {rest : List Oper} {o : Oper} {a : Act} {Q : Exit → Act → World → Prop} (hgd : o.guard = none) (s x : Operand)
    (ho : o.op = .call { callee := .builtin .append, args := #[s, x], argTypes := #[40, 40] })
    (B : Nat) (A : Option Addr) (n c : Nat) (ks : List (List UInt8)) (hn : ks.length = n) (hs : a.eval s = .slice A n c) (hown : OK16 B w A c ks)
    (X : Option Addr) (m d : Nat) (news : List (List UInt8)) (hm : news.length = m) (hx : a.eval x = .slice X m d) (hsrc : Src w 16 X m (cellsK news))
    (hlen : (n + m) * 16 ≤ 140737488355328) (hB : B ≤ w.heap.size)
    (h : ∀ A' c' w', OK16 B w' A' c' (ks ++ news) → Below B w w' → wpList Try.prog ops Q rest (a.put o.dst (.slice A' (n + m) c')) w') : wpList Try.prog ops Q (o :: rest) a w := by
  obtain ⟨i0, hi, hz0, hz1, hz2⟩ := info_parts key_info3
  subst hn hm
  refine wpList_append_src w hgd s x 40 ho B 23 i0 (.agg (cellsB zeroK).toArray) 16 16 Try.underlying40 hi hz0 hz1 hz2 rfl (by omega) A ks.length c (cellsK ks) hs hown X news.length d (cellsK news) hx hsrc (cells_oneK news)
    (by simp only [maxLen]; omega) hlen hB ?_
  intro A' c' w' h1 h2 h3
  refine h A' c' w' ?_ (grown_below (Below.refl _ _) hown h2 hB (Nat.le_refl _))
  unfold OK16
  rw [cellsK_append, List.length_append]
  exact h1
theorem KR.src {w : World} {A : Option Addr} {c : Nat} {ks : List (List UInt8)} (h : KR w A c ks) {n : Nat} (hn : ks.length = n) : Src w 16 A n (cellsK ks) := by subst hn; exact Rd.src h.1
theorem OK16.lit0 (B : Nat) (w : World) (hB : B ≤ w.heap.size) : OK16 B (w.alloc (.cells #[] 23)) (some ⟨w.heap.size, 0, none⟩) 0 [] := World.ownsRow_lit w #[] 0 hB (by simp [maxLen]) (by simp)

theorem pathS_16 : ∀ (n : Nat) (l : List (List UInt8)) (i : Nat), l.length = n → ∀ k ∈ pathS l i, k.length = 16 := by
  intro n
  induction n using Nat.strongRecOn with
  | _ n ih =>
    intro l i hl k hk
    rcases Nat.lt_or_ge n 2 with h2 | h2
    · rw [pathS_one (by omega)] at hk; cases hk
    have s1 := splitS_lt h2
    have s2 := splitS_pos n
    by_cases hi : i < splitS n
    · rw [pathS_low (by omega) (by rw [hl]; exact hi), hl] at hk
      rcases List.mem_append.1 hk with hk | hk
      · exact ih (splitS n) s1 _ _ (by rw [List.length_take]; omega) k hk
      · rw [List.mem_singleton.1 hk]; exact rootS_length _
    · rw [pathS_high (by omega) (by rw [hl]; exact hi), hl] at hk
      rcases List.mem_append.1 hk with hk | hk
      · exact ih (n - splitS n) (by omega) _ _ (by rw [List.length_drop]; omega) k hk
      · rw [List.mem_singleton.1 hk]; exact rootS_length _
theorem partS_16 : ∀ (n : Nat) (l : List (List UInt8)) (m : Nat) (wh : Bool), l.length = n → ∀ k ∈ partS l m wh, k.length = 16 := by
  intro n
  induction n using Nat.strongRecOn with
  | _ n ih =>
    intro l m wh hl k hk
    rw [partS] at hk
    split at hk
    · split at hk
      · cases hk
      · rw [List.mem_singleton.1 hk]; exact rootS_length _
    · rename_i h
      have s1 := splitS_lt (n := l.length) (by omega)
      have s2 := splitS_pos l.length
      dsimp only at hk
      split at hk
      · rcases List.mem_append.1 hk with hk | hk
        · exact ih (splitS l.length) (by omega) _ _ _ (by rw [List.length_take]; omega) k hk
        · rw [List.mem_singleton.1 hk]; exact rootS_length _
      · rcases List.mem_append.1 hk with hk | hk
        · exact ih (l.length - splitS l.length) (by omega) _ _ _ (by rw [List.length_drop]) k hk
        · rw [List.mem_singleton.1 hk]; exact rootS_length _
theorem pathS_le' : ∀ (n : Nat) (l : List (List UInt8)) (i : Nat), l.length = n → (pathS l i).length ≤ n := by
  intro n
  induction n using Nat.strongRecOn with
  | _ n ih =>
    intro l i hl
    rcases Nat.lt_or_ge n 2 with h2 | h2
    · rw [pathS_one (by omega)]; simp
    have s1 := splitS_lt h2
    have s2 := splitS_pos n
    by_cases hi : i < splitS n
    · rw [pathS_low (by omega) (by rw [hl]; exact hi), hl, List.length_append]
      have := ih (splitS n) s1 (l.take (splitS n)) i (by rw [List.length_take]; omega)
      simp only [List.length_cons, List.length_nil]; omega
    · rw [pathS_high (by omega) (by rw [hl]; exact hi), hl, List.length_append]
      have := ih (n - splitS n) (by omega) (l.drop (splitS n)) (i - splitS n) (by rw [List.length_drop]; omega)
      simp only [List.length_cons, List.length_nil]; omega
theorem proveS_ok (ks : List (List UInt8)) (i : Int) (h : Keys16 ks) : Keys16 (proveS ks i).P ∧ (proveS ks i).P.length ≤ 1000 := by
  unfold proveS
  split
  · exact ⟨fun k hk => (by cases hk), by simp⟩
  · split
    · exact ⟨fun k hk => (by cases hk), by simp⟩
    · exact ⟨fun k hk => pathS_16 _ ks _ rfl k hk, by have := pathS_le' _ ks i.toNat rfl; simp only; omega⟩
theorem growthS_ok (ks : List (List UInt8)) (i : Int) (h : Keys16 ks) : Keys16 (growthS ks i).P ∧ (growthS ks i).P.length ≤ 1000 := by
  unfold growthS
  split
  · exact ⟨fun k hk => (by cases hk), by simp⟩
  · split
    · exact ⟨fun k hk => (by cases hk), by simp⟩
    · exact ⟨fun k hk => partS_16 _ ks _ _ rfl k hk, by have := partS_le ks i.toNat true; simp only; omega⟩

set_option maxHeartbeats 4000000 in
set_option maxRecDepth 100000 in
theorem auditTrees_in (A : Option Addr) (c : Nat) (ks : List (List UInt8)) (i m : Int) (w : World) (h : KR w A c ks) (hc : c * 16 ≤ 140737488351232) :
    Calls Try.prog 4 #[.slice A ks.length c, .int .i64 i, .int .i64 m] w fun e w' => e = .returned (.bool true) ∧ Below w.heap.size w w' := by
  obtain ⟨n, hn⟩ : ∃ n, ks.length = n := ⟨_, rfl⟩
  have hle : n ≤ c := by rw [← hn]; exact Rd.le h.1
  have hnl : (n : Int) ≤ 140737488351232 := by omega
  rw [hn]
  have HZ := Lib.hid zero16
  have HN := Lib.hid hn
  have HL : Hid (∀ W, Below w.heap.size w W → KR W A c ks) := fun W hW => h.below hW
  have HRL := Lib.hid (rtS_length ks)
  have H1 : Hid (∀ X d W, KR W X d ks → Calls Try.prog 15 #[.slice X n d] W fun e w' => e = .returned (.tuple #[.agg (cellsB (rtS ks).1).toArray, .int .i64 (rtS ks).2]) ∧ Below W.heap.size W w') := fun X d W hW => Root_any ks X d W hn hW
  have H2 : Hid (∀ X d W, KR W X d ks → Calls Try.prog 16 #[.slice X n d] W fun e w' => e = .returned (.tuple #[.agg (cellsB (rtS ks).1).toArray, .int .i64 (rtS ks).2]) ∧ Below W.heap.size W w') := fun X d W hW => refRoot_any ks X d W hn hW
  have H3 : Hid (∀ X d W, KR W X d ks → Calls Try.prog 17 #[.slice X n d] W fun e w' => TxEnd (textsR ks).1 (textsR ks).2 e w' ∧ Below W.heap.size W w') := fun X d W hW => Texts_any ks X d W hn hW
  have H4 : Hid (∀ X d W, KR W X d ks → Calls Try.prog 18 #[.slice X n d] W fun e w' => TxEnd (textsR ks).1 (textsR ks).2 e w' ∧ Below W.heap.size W w') := fun X d W hW => refTexts_any ks X d W hn hW
  have H5 : Hid (∀ X d W, KR W X d ks → Calls Try.prog 20 #[.slice X n d, .int .i64 i] W fun e w' => PrEnd W.heap.size (proveS ks i).a (proveS ks i).b (proveS ks i).P (proveS ks i).e e w' ∧ Below W.heap.size W w') := fun X d W hW => Prove_any ks i X d W hn hW
  have H6 : Hid (∀ X d W, KR W X d ks → Calls Try.prog 21 #[.slice X n d, .int .i64 i] W fun e w' => PrEnd W.heap.size (proveS ks i).a (proveS ks i).b (proveS ks i).P (proveS ks i).e e w' ∧ Below W.heap.size W w') := fun X d W hW => refProve_any ks i X d W hn hW
  have H7 : Hid (∀ X d W, KR W X d ks → Calls Try.prog 23 #[.slice X n d, .int .i64 m] W fun e w' => PrEnd W.heap.size (growthS ks m).a (growthS ks m).b (growthS ks m).P (growthS ks m).e e w' ∧ Below W.heap.size W w') := fun X d W hW => ProveGrowth_any ks m X d W hn hW
  have H8 : Hid (∀ X d W, KR W X d ks → Calls Try.prog 24 #[.slice X n d, .int .i64 m] W fun e w' => PrEnd W.heap.size (growthS ks m).a (growthS ks m).b (growthS ks m).P (growthS ks m).e e w' ∧ Below W.heap.size W w') := fun X d W hW => refProveGrowth_any ks m X d W hn hW
  have HSK : Hid (∀ X d Y f W, KR W X d ks → KR W Y f ks → Calls Try.prog 25 #[.slice X n d, .slice Y n f] W fun e w' => e = .returned (.bool true) ∧ Below W.heap.size W w') := fun X d Y f W h1 h2 => sameKeys_any ks X d Y f W hn h1 h2
  have hPP := proveS_ok ks i h.2
  have hGP := growthS_ok ks m h.2
  generalize rtS ks = r at HRL H1 H2
  generalize textsR ks = tx at H3 H4
  generalize proveS ks i = pv at H5 H6 hPP
  generalize growthS ks m = gv at H7 H8 hGP
  obtain ⟨rk, re⟩ := r
  obtain ⟨tl, te⟩ := tx
  obtain ⟨pa, pb, PP, pe⟩ := pv
  obtain ⟨ga, gb, GP, ge⟩ := gv
  simp only at HRL H1 H2 H3 H4 H5 H6 H7 H8 hPP hGP
  obtain ⟨np, hnp⟩ : ∃ n, PP.length = n := ⟨_, rfl⟩
  obtain ⟨ng, hng⟩ : ∃ n, GP.length = n := ⟨_, rfl⟩
  unfold TxEnd at H3 H4
  unfold PrEnd prC at H5 H6 H7 H8
  simp only [hnp] at H5 H6
  simp only [hng] at H7 H8
  have HPP : Hid (∀ B W X d, OK16 B W X d PP → KR W X d PP) := fun B W X d ho => ho.kr hPP.1 (by omega)
  have HGP : Hid (∀ B W X d, OK16 B W X d GP → KR W X d GP) := fun B W X d ho => ho.kr hGP.1 (by omega)
  have HNP := Lib.hid hnp
  have HNG := Lib.hid hng
  have hnpl : (np : Int) ≤ 140737488351232 := by omega
  have hngl : (ng : Int) ≤ 140737488351232 := by omega
  have HPR : Hid (∀ X d Y f W, KR W X d PP → KR W Y f PP → Calls Try.prog 22 #[.agg #[.int .i64 pa, .int .i64 pb, .slice X np d], .agg #[.int .i64 pa, .int .i64 pb, .slice Y np f]] W fun e w' => e = .returned (.bool true) ∧ Below W.heap.size W w') := fun X d Y f W h1 h2 => sameProof_any pa pb PP X d Y f W hnp h1 h2
  have HSG : Hid (∀ X d Y f W, KR W X d GP → KR W Y f GP → Calls Try.prog 25 #[.slice X ng d, .slice Y ng f] W fun e w' => e = .returned (.bool true) ∧ Below W.heap.size W w') := fun X d Y f W h1 h2 => sameKeys_any GP X d Y f W hng h1 h2
  have hrl : (cellsB rk).length = 16 := by rw [cellsB_length, HRL.out]
  have hra := all16 rk
  have hz : ∀ W, (Op.equalIn 10000 23 (.agg (cellsB rk).toArray) (.agg (cellsB rk).toArray)).run Try.prog W = .ok true W := fun W => by rw [equalIn_keys W rk rk HRL.out HRL.out]; simp
  have HO0 := Lib.hid (OK16.lit0 w.heap.size w (Nat.le_refl _))
  have b0 := alloc_bel w (.cells #[] 23)
  have HSRC := Lib.hid ((h.below b0).src hn)
  have hb16 : (0 + n) * 16 ≤ 140737488355328 := by omega
  clear h hn hle hc hPP hGP hnp hng
  go_enter Try.func4, Try.ntmps4
  go_wp2_with (first
    | (at_builtin; refine wpList_append_keys _ rfl (.tmp 18) (.tmp 19) rfl w.heap.size (some ⟨w.heap.size, 0, none⟩) 0 0 [] rfl rfl HO0.out A n c ks HN.out rfl HSRC.out hb16 (by simp) ?_; intro O co w1 ho1 hb1; rw [List.nil_append] at ho1; rw [Nat.zero_add]; have b1 := b0.trans hb1; have HO : Hid (∀ W, Below w1.heap.size w1 W → KR W O co ks) := (fun W hW => (ho1.kr (HL.out w (Below.refl _ _)).2 (by rw [HN.out]; omega)).below hW); clear ho1 hb1)
    | (go_at_call 15; refine (H1.out _ _ _ (HO.out _ (Below.refl _ _))).mono ?_; rintro e w2 ⟨rfl, hb2⟩; have D2 := bel_on hb2 (alloc_bel w2 (.cells (cellsB rk).toArray 23)); have B2 := Lib.hid (Blk.new w2 23 (cellsB rk).toArray); clear hb2)
    | (go_at_call 16; refine (H2.out _ _ _ (HL.out _ (bel_on b1 D2))).mono ?_; rintro e w3 ⟨rfl, hb3⟩; have D3 := bel_on (bel_on D2 hb3) (alloc_bel w3 (.cells (cellsB rk).toArray 23)); have K2 := Lib.hid ((B2.out.below' hb3).alloc (.cells (cellsB rk).toArray 23)); have K3 := Lib.hid (Blk.new w3 23 (cellsB rk).toArray); clear hb3)
    | (refine wpList_load_row rfl 23 (.tmp 8) rfl w2.heap.size rfl 23 (cellsB rk).toArray (0, 0) _ K2.out under_key rfl (cellsB_size _ HRL.out) ?_)
    | (refine wpList_load_row rfl 23 (.tmp 10) rfl w3.heap.size rfl 23 (cellsB rk).toArray (0, 0) _ K3.out under_key rfl (cellsB_size _ HRL.out) ?_)
    | (go_at_call 17; refine (H3.out _ _ _ (HO.out _ D3)).mono ?_; rintro e w4 ⟨⟨X4, x4, r4, rfl, hm4, hr4⟩, hb4⟩; have D4 := bel_on D3 hb4; generalize hq4 : r4.length = q4; have HQ4 := Lib.hid hq4; have HM4 := Lib.hid hm4; have HR4 := Lib.hid hr4; clear hq4 hm4 hr4 hb4)
    | (go_at_call 18; refine (H4.out _ _ _ (HL.out _ (bel_on b1 D4))).mono ?_; rintro e w5 ⟨⟨X5, x5, r5, rfl, hm5, hr5⟩, hb5⟩; have D5 := bel_on D4 hb5; have HR45 := Lib.hid (HR4.out.on hb5); generalize hq5 : r5.length = q5; have HQ5 := Lib.hid hq5; have HM5 := Lib.hid hm5; have HR5 := Lib.hid hr5; clear hq5 hm5 hr5 hb5)
    | (go_at_call 19; refine (sameTexts_any tl X4 x4 r4 X5 x5 r5 _ HQ4.out HQ5.out HM4.out HM5.out HR45.out HR5.out).mono ?_; rintro e w6 ⟨rfl, hb6⟩; have D6 := bel_on D5 hb6; clear hb6)
    | (go_at_call 20; refine (H5.out _ _ _ (HO.out _ D6)).mono ?_; rintro e w7 ⟨⟨X7, x7, rfl, ho7⟩, hb7⟩; have D7 := bel_on (bel_on D6 hb7) (alloc_bel w7 (.cells #[.int .i64 pa, .int .i64 pb, .slice X7 np x7] 52)); have P7 := Lib.hid (Blk.new w7 52 #[.int .i64 pa, .int .i64 pb, .slice X7 np x7]); have R7 := Lib.hid ((HPP.out _ _ _ _ ho7).below (alloc_bel w7 (.cells #[.int .i64 pa, .int .i64 pb, .slice X7 np x7] 52))); clear ho7 hb7)
    | (go_at_call 21; refine (H6.out _ _ _ (HL.out _ (bel_on b1 D7))).mono ?_; rintro e w8 ⟨⟨X8, x8, rfl, ho8⟩, hb8⟩; have D8 := bel_on (bel_on D7 hb8) (alloc_bel w8 (.cells #[.int .i64 pa, .int .i64 pb, .slice X8 np x8] 52)); have Q7 := P7.out.below' hb8; have k0 : w8.cell? ⟨w7.heap.size, 0, none⟩ = some (.int .i64 pa) := Q7.cell 0; have k1 : w8.cell? ⟨w7.heap.size, 1, none⟩ = some (.int .i64 pb) := Q7.cell 1; have k2 : w8.cell? ⟨w7.heap.size, 2, none⟩ = some (.slice X7 np x7) := Q7.cell 2; have kl : w7.heap.size < w8.heap.size := Q7.lt; have R78 := Lib.hid ((R7.out.below hb8).below (alloc_bel w8 (.cells #[.int .i64 pa, .int .i64 pb, .slice X8 np x8] 52))); have R8 := Lib.hid ((HPP.out _ _ _ _ ho8).below (alloc_bel w8 (.cells #[.int .i64 pa, .int .i64 pb, .slice X8 np x8] 52))); clear ho8 hb8 Q7)
    | (go_at_call 22; refine (HPR.out X7 x7 X8 x8 _ R78.out R8.out).mono ?_; rintro e w9 ⟨rfl, hb9⟩; have D9 := bel_on D8 hb9; clear hb9 k0 k1 k2 kl)
    | (go_at_call 23; refine (H7.out _ _ _ (HO.out _ D9)).mono ?_; rintro e w10 ⟨⟨X10, x10, rfl, ho10⟩, hb10⟩; have D10 := bel_on (bel_on D9 hb10) (alloc_bel w10 (.cells #[.int .i64 ga, .int .i64 gb, .slice X10 ng x10] 59)); have P10 := Lib.hid (Blk.new w10 59 #[.int .i64 ga, .int .i64 gb, .slice X10 ng x10]); have R10 := Lib.hid ((HGP.out _ _ _ _ ho10).below (alloc_bel w10 (.cells #[.int .i64 ga, .int .i64 gb, .slice X10 ng x10] 59))); clear ho10 hb10)
    | (go_at_call 24; refine (H8.out _ _ _ (HL.out _ (bel_on b1 D10))).mono ?_; rintro e w11 ⟨⟨X11, x11, rfl, ho11⟩, hb11⟩; have D11 := bel_on (bel_on D10 hb11) (alloc_bel w11 (.cells #[.int .i64 ga, .int .i64 gb, .slice X11 ng x11] 59)); have Q10 := P10.out.below' hb11; have k0 : w11.cell? ⟨w10.heap.size, 0, none⟩ = some (.int .i64 ga) := Q10.cell 0; have k1 : w11.cell? ⟨w10.heap.size, 1, none⟩ = some (.int .i64 gb) := Q10.cell 1; have k2 : w11.cell? ⟨w10.heap.size, 2, none⟩ = some (.slice X10 ng x10) := Q10.cell 2; have kl : w10.heap.size < w11.heap.size := Q10.lt; have R1011 := Lib.hid ((R10.out.below hb11).below (alloc_bel w11 (.cells #[.int .i64 ga, .int .i64 gb, .slice X11 ng x11] 59))); have R11 := Lib.hid ((HGP.out _ _ _ _ ho11).below (alloc_bel w11 (.cells #[.int .i64 ga, .int .i64 gb, .slice X11 ng x11] 59))); clear ho11 hb11 Q10)
    | (go_at_call 25; (with_reducible refine (HSG.out X10 x10 X11 x11 _ R1011.out R11.out).mono ?_); rintro e w12 ⟨rfl, hb12⟩; have D12 := bel_on D11 hb12; clear hb12)
    | (go_at_call 25; (with_reducible refine (HSK.out O co A c _ (HO.out _ D12) (HL.out _ (bel_on b1 D12))).mono ?_); rintro e w13 ⟨rfl, hb13⟩; have D13 := bel_on D12 hb13; clear hb13))
  go_ret
  exact ⟨rfl, bel_on b1 D13⟩
theorem auditTrees_walk (A : Option Addr) (c : Nat) (ks : List (List UInt8)) (i m : Int) (w : World) (h : KR w A c ks) (hc : c * 16 ≤ 140737488351232) (_ : -9223372036854775808 ≤ i) (_ : i ≤ 9223372036854775807) (_ : -9223372036854775808 ≤ m) (_ : m ≤ 9223372036854775807) :
    Calls Try.prog 4 #[.slice A ks.length c, .int .i64 i, .int .i64 m] w fun e w' => e = .returned (.bool true) ∧ Below w.heap.size w w' := auditTrees_in A c ks i m w h hc
end Go.Proofs.Ytinpiodfpnbllaa
