/-
  Lemmas and contracts, joined: part 8.
-/
import Derived.Deep.QuietTactic
import Derived.BigQuiet
import Derived.Test.YtinpiodfpnbllaaAuditOnOffB7
set_option linter.unusedSimpArgs false
set_option linter.unusedVariables false
set_option linter.unnecessarySimpa false
/- The texts of a list: the reference's. -/
namespace Go.Proofs.Ytinpiodfpnbllaa
open Go.RowKit
set_option linter.unusedVariables false
set_option linter.unusedSimpArgs false

section
variable {md : Region.Mode} {ops : Array Oper} {Q : Exit → Act → World → Prop} {S : World → Prop} {fuel : Nat} {listed : Array Bool} {a : Act} {w : World}
/-- append to rows that the call owns, the only operation that may come up. -/
theorem hd_appendR (i : Nat) {oi : Oper} (s x : Operand) (hi : ops[i]? = some oi) (ho : oi.op = .call { callee := .builtin .append, args := #[s, x], argTypes := #[45, 45] }) (hg : oi.guard = none) (hr : Region.ready md ops listed = [i])
    (B : Nat) (A : Option Addr) (n c : Nat) (rs : List BRow) (hn : rs.length = n) (hs : a.eval s = .slice A n c) (hown : RO B w A c rs)
    (X : Option Addr) (m d : Nat) (news : List BRow) (hm : news.length = m) (hx : a.eval x = .slice X m d) (hsrc : Src w 1 X m (news.map BRow.v)) (hlen : n + m ≤ 1000000) (hB : B ≤ w.heap.size)
    (h : ∀ A' c' w', RO B w' A' c' (rs ++ news) → Below B w w' → w.grownBy w' (Value.ownBlock (.slice A n c)) → S w' ∧ wpAnyH Try.prog md ops Q S fuel (listed.setIfInBounds i true) (a.put oi.dst (.slice A' (n + m) c')) w') : wpAnyH Try.prog md ops Q S (fuel + 1) listed a w := by
  obtain ⟨i0, hi0, hz0, hz1, hz2⟩ := info_parts rows_info
  subst hn hm
  obtain ⟨A', c', w', hrun, h2, h3, h4⟩ := run_append_src (P := Try.prog) w B 45 oi.type 24 i0 (.slice none 0 0) 1 24 Try.underlying45 hi0 hz0 hz1 hz2 rfl (by omega) A rs.length c (rs.map BRow.v) hown X news.length d (news.map BRow.v) hsrc (by intro u hu; obtain ⟨r, _, rfl⟩ := List.mem_map.1 hu; rfl) (by simp only [maxLen]; omega) (by omega) hB
  refine hd_one i hi hg hr ?_
  refine Lib.wp_append_run w s x 45 45 ho _ _ hs hx _ w' hrun ?_
  refine h A' c' w' ?_ (grown_below (Below.refl _ _) hown h3 hB (Nat.le_refl _)) h3
  unfold RO
  rw [List.map_append, List.length_append]
  exact h2
end
/-- Texts that the call owns. -/
def TO (B : Nat) (w : World) (A : Option Addr) (c : Nat) (rs : List BRow) (ts : List (List UInt8)) : Prop := rs.map BRow.l = ts ∧ RO B w A c rs ∧ ∀ r ∈ rs, OB B w r.A r.c r.l
theorem TO.below {B : Nat} {w w' : World} {A : Option Addr} {c : Nat} {rs : List BRow} {ts : List (List UInt8)} (h : TO B w A c rs ts) (hb : Below w.heap.size w w') : TO B w' A c rs ts := ⟨h.1, h.2.1.below hb, fun r hr => (h.2.2 r hr).below hb⟩
theorem RO.le_ {B B' : Nat} {w : World} {A : Option Addr} {c : Nat} {rs : List BRow} (h : RO B w A c rs) (hB : B' ≤ B) : RO B' w A c rs :=
  ⟨h.1, h.2.elim Or.inl (fun ⟨g, cap, cur, hv, hg, r⟩ => Or.inr ⟨g, cap, cur, hv, Nat.le_trans hB hg, r⟩)⟩
theorem TO.le_ {B B' : Nat} {w : World} {A : Option Addr} {c : Nat} {rs : List BRow} {ts : List (List UInt8)} (h : TO B w A c rs ts) (hB : B' ≤ B) : TO B' w A c rs ts := ⟨h.1, h.2.1.le_ hB, fun r hr => (h.2.2 r hr).le_ hB⟩
theorem TO.len {B : Nat} {w : World} {A : Option Addr} {c : Nat} {rs : List BRow} {ts : List (List UInt8)} (h : TO B w A c rs ts) : rs.length = ts.length := by rw [← h.1, List.length_map]
theorem TO.rr {B : Nat} {w : World} {A : Option Addr} {c : Nat} {rs : List BRow} {ts : List (List UInt8)} (h : TO B w A c rs ts) (hl : ts.length ≤ 100000) (hb : ∀ t ∈ ts, t.length ≤ 1000) : RR w A c rs :=
  h.2.1.rr (by rw [h.len]; omega) fun r hr => (h.2.2 r hr).br (by have := hb r.l (by rw [← h.1]; exact List.mem_map.2 ⟨r, hr, rfl⟩); omega)
theorem RO.lit (B : Nat) (w : World) (r : BRow) (hB : B ≤ w.heap.size) : RO B (w.alloc (.cells #[r.v] 24)) (some ⟨w.heap.size, 0, none⟩) 1 [r] := by
  have h := World.ownsRow_lit (e := 24) (size := 1) w #[r.v] 1 hB (by simp [maxLen]) (by simp)
  unfold RO
  simpa using h
theorem textsS_short : ∀ (n : Nat) (l : List (List UInt8)), l.length = n → (∀ k ∈ l, k.length = 16) → ∀ t ∈ textsS l, t.length ≤ 1000 := by
  intro n
  induction n using Nat.strongRecOn with
  | _ n ih =>
    intro l hl hk t ht
    rcases Nat.lt_or_ge n 2 with h2 | h2
    · rcases Nat.lt_or_ge n 1 with h1 | h1
      · rw [List.eq_nil_of_length_eq_zero (show l.length = 0 by omega), textsS_nil, List.mem_singleton] at ht
        subst ht; simp
      · obtain ⟨x, rfl⟩ := List.length_eq_one_iff.1 (show l.length = 1 by omega)
        rw [textsS_one, List.mem_singleton] at ht
        subst ht
        have := hk x (by simp)
        simp [leafT, this]
    have s1 := splitS_lt h2
    have s2 := splitS_pos n
    rw [textsS_node (by omega), hl] at ht
    rcases List.mem_append.1 ht with ht | ht
    · exact ih (splitS n) s1 _ (by rw [List.length_take]; omega) (fun k h => hk k (List.mem_of_mem_take h)) t ht
    · rcases List.mem_append.1 ht with ht | ht
      · exact ih (n - splitS n) (by omega) _ (by rw [List.length_drop]; omega) (fun k h => hk k (List.mem_of_mem_drop h)) t ht
      · rw [List.mem_singleton.1 ht]
        simp [nodeT, rootS_length]

set_option maxHeartbeats 1000000 in
set_option maxRecDepth 100000 in
theorem refTexts_one (k : List UInt8) (A : Option Addr) (c : Nat) (w : World) (h : KR w A c [k]) :
    Calls Try.prog 69 #[.slice A 1 c] w fun e w' => (∃ A' c' rs, e = .returned (.slice A' rs.length c') ∧ TO w.heap.size w' A' c' rs (textsS [k])) ∧ Below w.heap.size w w' := by
  have hk : k.length = 16 := h.2 k (by simp)
  obtain ⟨b, off, rfl, hb, hr⟩ := h.first
  have HK := Lib.hid hk
  have HR := Lib.hid hr
  have HLT : Hid (∀ W, Calls Try.prog 126 #[.agg (cellsB k).toArray] W fun e w' => (∃ A c, e = .returned (.slice A 17 c) ∧ OB W.heap.size w' A c (leafT k)) ∧ Below W.heap.size W w') := fun W => refLeafText_any k W hk
  have HLL : Hid ((leafT k).length = 17) := by unfold Hid leafT; simp [hk]
  rw [textsS_one]
  generalize leafT k = t at HLT HLL ⊢
  clear hk hr h
  go_enter Try.func69, Try.ntmps69
  go_wp2_with (first
    | (refine wpList_load_mid rfl 23 (.tmp 14) rfl b off rfl (cellsB k) _ HR.out under_key rfl (key_info HK.out) ?_)
    | (go_at_call 126; refine (HLT.out _).mono ?_; rintro e w1 ⟨⟨A1, c1, rfl, ho1⟩, hb1⟩; have HO1 := Lib.hid ho1; have b1 := hb1; clear ho1 hb1))
  go_ret
  refine ⟨⟨_, 1, [⟨A1, c1, t⟩], rfl, rfl, ?_, fun r hr => ?_⟩, b1.alloc b1.size _⟩
  · have := RO.lit w.heap.size w1 ⟨A1, c1, t⟩ b1.size
    simpa only [BRow.v, HLL.out] using this
  · rw [List.mem_singleton.1 hr]
    exact HO1.out.below (alloc_bel _ _)

set_option maxHeartbeats 1000000 in
theorem refTexts_zero (A : Option Addr) (c : Nat) (w : World) :
    Calls Try.prog 69 #[.slice A 0 c] w fun e w' => (∃ A' c' rs, e = .returned (.slice A' rs.length c') ∧ TO w.heap.size w' A' c' rs (textsS [])) ∧ Below w.heap.size w w' := by
  rw [textsS_nil]
  go_enter Try.func69, Try.ntmps69
  go_wp2
  go_ret
  refine ⟨⟨_, 1, [⟨some ⟨w.heap.size, 0, none⟩, 0, []⟩], rfl, rfl, ?_, fun r hr => ?_⟩, alloc2_bel _ _ _⟩
  · have := RO.lit w.heap.size (w.alloc (.cells #[] 5)) ⟨some ⟨w.heap.size, 0, none⟩, 0, []⟩ (by simp)
    rw [World.size_alloc] at this
    exact this
  · rw [List.mem_singleton.1 hr]
    exact (OB.lit0 w.heap.size w (Nat.le_refl _)).below (alloc_bel _ _)

set_option maxHeartbeats 2000000 in
set_option maxRecDepth 100000 in
theorem refTextsOf_any (n : Nat) : ∀ (ks : List (List UInt8)) (A : Option Addr) (c : Nat) (w : World), ks.length = n → n ≤ 1000 → KR w A c ks →
    Calls Try.prog 69 #[.slice A n c] w fun e w' => (∃ A' c' rs, e = .returned (.slice A' rs.length c') ∧ TO w.heap.size w' A' c' rs (textsS ks)) ∧ Below w.heap.size w w' := by
  induction n using Nat.strongRecOn with
  | _ n ih =>
    intro ks A c w hn hbig h
    rcases Nat.lt_or_ge n 2 with h2 | h2
    · rcases Nat.lt_or_ge n 1 with h1 | h1
      · obtain rfl : n = 0 := by omega
        obtain rfl : ks = [] := List.eq_nil_of_length_eq_zero hn
        exact refTexts_zero A c w
      · obtain rfl : n = 1 := by omega
        obtain ⟨k, rfl⟩ := List.length_eq_one_iff.1 hn
        exact refTexts_one k A c w h
    have hs1 := splitS_pos n
    have hs2 := splitS_lt h2
    have hcl : n ≤ c := by have := Rd.le h.1; omega
    have hni : (2 : Int) ≤ (n : Int) := by omega
    have hnb : (n : Int) ≤ 1000 := by omega
    have hne0 : ¬ (n : Int) = 0 := by omega
    have hne1 : ¬ (n : Int) = 1 := by omega
    have HSP : Hid (∀ W, Calls Try.prog 127 #[.int .i64 (n : Int)] W fun e w' => e = .returned (.int .i64 ((splitS n : Nat) : Int)) ∧ W = w') := fun W => refSplit_any n W h2 (by omega)
    have HTEXT : Hid (textsS ks = textsS (ks.take (splitS n)) ++ (textsS (ks.drop (splitS n)) ++ [nodeT (rootS (ks.take (splitS n))) (rootS (ks.drop (splitS n)))])) := by have := textsS_node (l := ks) (by omega); rw [hn] at this; exact this
    have hT1 := textsS_le (splitS n) (ks.take (splitS n)) (by rw [List.length_take]; omega) hs1
    have hT2 := textsS_le (n - splitS n) (ks.drop (splitS n)) (by rw [List.length_drop]; omega) (by omega)
    have HLO : Hid (∀ W, Below w.heap.size w W → Calls Try.prog 69 #[.slice A (splitS n) c] W fun e w' => (∃ A' c' rs, e = .returned (.slice A' rs.length c') ∧ TO W.heap.size w' A' c' rs (textsS (ks.take (splitS n)))) ∧ Below W.heap.size W w') := fun W hW => ih (splitS n) hs2 _ A c W (by rw [List.length_take]; omega) (by omega) ((h.below hW).take _ (by omega))
    have HHI : Hid (∀ W, Below w.heap.size w W → Calls Try.prog 69 #[.slice (dropK A (splitS n) c) (n - splitS n) (c - splitS n)] W fun e w' => (∃ A' c' rs, e = .returned (.slice A' rs.length c') ∧ TO W.heap.size w' A' c' rs (textsS (ks.drop (splitS n)))) ∧ Below W.heap.size W w') := fun W hW => ih (n - splitS n) (by omega) _ _ _ W (by rw [List.length_drop]; omega) (by omega) ((h.below hW).drop _ (by omega))
    have HR1 : Hid (∀ W, Below w.heap.size w W → Calls Try.prog 62 #[.slice A (splitS n) c] W fun e w' => e = .returned (.agg (cellsB (rootS (ks.take (splitS n)))).toArray) ∧ Below W.heap.size W w') := fun W hW => refRootOf_any (splitS n) _ _ _ W (by rw [List.length_take]; omega) (by omega) ((h.below hW).take _ (by omega))
    have HR2 : Hid (∀ W, Below w.heap.size w W → Calls Try.prog 62 #[.slice (dropK A (splitS n) c) (n - splitS n) (c - splitS n)] W fun e w' => e = .returned (.agg (cellsB (rootS (ks.drop (splitS n)))).toArray) ∧ Below W.heap.size W w') := fun W hW => refRootOf_any (n - splitS n) _ _ _ W (by rw [List.length_drop]; omega) (by omega) ((h.below hW).drop _ (by omega))
    have hL1 := rootS_length (ks.take (splitS n))
    have hL2 := rootS_length (ks.drop (splitS n))
    have hsl1 := fun W => slice_keys_to W A n c (splitS n) (by omega)
    have hsl2 := fun W => slice_keys_from W A n c (splitS n) (by omega)
    generalize splitS n = k at HSP HTEXT HLO HHI HR1 HR2 hL1 hL2 hsl1 hsl2 hs1 hs2 hT1 hT2
    generalize rootS (ks.take k) = r1 at HTEXT HR1 hL1
    generalize rootS (ks.drop k) = r2 at HTEXT HR2 hL2
    generalize textsS (ks.take k) = x1 at HTEXT HLO hT1
    generalize textsS (ks.drop k) = x2 at HTEXT HHI hT2
    have HNT : Hid (∀ W, Calls Try.prog 128 #[.agg (cellsB r1).toArray, .agg (cellsB r2).toArray] W fun e w' => (∃ A c, e = .returned (.slice A 33 c) ∧ OB W.heap.size w' A c (nodeT r1 r2)) ∧ Below W.heap.size W w') := fun W => refNodeText_any r1 r2 W hL1 hL2
    have HNL : Hid ((nodeT r1 r2).length = 33) := by unfold Hid nodeT; simp [hL1, hL2]
    generalize nodeT r1 r2 = nt at HTEXT HNT HNL
    have b0 : Below w.heap.size w w := Below.refl _ _
    clear ih h hn hbig hL1 hL2
    go_enter Try.func69, Try.ntmps69
    go_wp2_with (go_at_call 127; refine (HSP.out _).mono ?_; rintro e w1 ⟨rfl, rfl⟩)
    refine wp_region_noPanic ?_
    refine wp_region_held_drew (S := fun _ => True) (by kernel_rfl) trivial (fun hS => ?_)
    refine hd_take 0 (_) rfl rfl (by kernel_rfl) (by kernel_rfl) (by kernel_rfl) (fun _ _ _ h => h) (fun w _ => by go_simp <;> rfl) hS ?_
    refine hd_take 1 (_) rfl rfl (by kernel_rfl) (by kernel_rfl) (by kernel_rfl) (fun _ _ _ h => h) (fun w _ => by go_simp <;> rfl) hS ?_
    refine hd_take 4 (_) rfl rfl (by kernel_rfl) (by kernel_rfl) (by kernel_rfl) (fun _ _ _ h => h) (fun w _ => by go_simp <;> rfl) hS ?_
    refine hd_take 5 (_) rfl rfl (by kernel_rfl) (by kernel_rfl) (by kernel_rfl) (fun _ _ _ h => h) (fun w _ => by go_simp <;> rfl) hS ?_
    simp only [List.getElem_toArray, List.getElem_cons_succ, List.getElem_cons_zero, Act.put, List.setIfInBounds_toArray, List.set_cons_zero, List.set_cons_succ]
    refine hd_take 2 (_) rfl rfl (by kernel_rfl) (by kernel_rfl) (by kernel_rfl) (fun _ _ _ h => h) (fun w _ => by go_simp <;> rfl) hS ?_
    refine hd_take 6 (_) rfl rfl (by kernel_rfl) (by kernel_rfl) (by kernel_rfl) (fun _ _ _ h => h) (fun w _ => by go_simp <;> rfl) hS ?_
    simp only [List.getElem_toArray, List.getElem_cons_succ, List.getElem_cons_zero, Act.put, List.setIfInBounds_toArray, List.set_cons_zero, List.set_cons_succ]
    refine hd_calls 3 69 #[.slice A k c] rfl rfl (by kernel_rfl) (by go_simp) ((HLO.out _ b0.drew).mono ?_)
    rintro e w3 ⟨⟨A3, c3, rs3, rfl, ho3⟩, hb3⟩
    have b3 := bel_on b0.drew hb3
    refine ⟨_, rfl, trivial, ?_⟩
    simp only [List.getElem_toArray, List.getElem_cons_succ, List.getElem_cons_zero, Act.put, List.setIfInBounds_toArray, List.set_cons_zero, List.set_cons_succ]
    refine hd_calls 7 69 #[.slice (dropK A k c) (n - k) (c - k)] rfl rfl (by kernel_rfl) (by go_simp) ((HHI.out _ b3).mono ?_)
    rintro e w4 ⟨⟨A4, c4, rs4, rfl, ho4⟩, hb4⟩
    have b4 := bel_on b3 hb4
    refine ⟨_, rfl, trivial, ?_⟩
    simp only [List.getElem_toArray, List.getElem_cons_succ, List.getElem_cons_zero, Act.put, List.setIfInBounds_toArray, List.set_cons_zero, List.set_cons_succ]
    have ho3' := ho3.below hb4
    have hz4 : w.drew.heap.size ≤ w4.heap.size := b4.size
    have hz3 : w.drew.heap.size ≤ w3.heap.size := b3.size
    have ho4' := ho4.le_ hz3
    have l3 := ho3.len
    have l4 := ho4.len
    obtain ⟨q3, hq3⟩ : ∃ q, rs3.length = q := ⟨_, rfl⟩
    obtain ⟨q4, hq4⟩ : ∃ q, rs4.length = q := ⟨_, rfl⟩
    have hsrc : Src w4 1 A4 q4 (rs4.map BRow.v) := by have := (Rd.of_own ho4.2.1 (by omega)).src; rw [hq4] at this; exact this
    rw [hq3, hq4]
    refine hd_appendR 8 (.tmp 24) (.tmp 28) rfl rfl rfl (by kernel_rfl) w.drew.heap.size A3 q3 c3 rs3 hq3 rfl ho3'.2.1 A4 q4 c4 rs4 hq4 rfl hsrc (by omega) hz4 ?_
    intro A5 c5 w5 ho5 hb5 hg5
    rw [← hq3] at hg5
    have hto5 : TO w.drew.heap.size w5 A5 c5 (rs3 ++ rs4) (x1 ++ x2) := ⟨by rw [List.map_append, ho3.1, ho4.1], ho5, fun r hr => by
      rcases List.mem_append.1 hr with hr | hr
      · exact own_kept (ho3'.2.2 r hr) ho3'.2.1 (by decide) hg5
      · exact own_kept (ho4'.2.2 r hr) ho3'.2.1 (by decide) hg5⟩
    have b5 : Below w.heap.size w w5 := b4.trans hb5
    refine ⟨trivial, ?_⟩
    simp only [List.getElem_toArray, List.getElem_cons_succ, List.getElem_cons_zero, Act.put, List.setIfInBounds_toArray, List.set_cons_zero, List.set_cons_succ]
    refine hd_take 9 (.slice A5 (q3 + q4) c5) rfl rfl (by kernel_rfl) (by kernel_rfl) (by kernel_rfl) (fun _ _ _ h => h) (fun w _ => by go_simp) trivial ?_
    refine wpAnyH_done (by kernel_rfl) (NoPanic.normal ?_) _
    simp only [List.getElem_toArray, List.getElem_cons_succ, List.getElem_cons_zero, Act.put, List.setIfInBounds_toArray, List.set_cons_zero, List.set_cons_succ]
    have HTO5 := Lib.hid hto5
    have HB5 := Lib.hid b5
    have HQ : Hid ((rs3 ++ rs4).length = q3 + q4) := by unfold Hid; rw [List.length_append, hq3, hq4]
    have hqb : q3 + q4 ≤ 2000 := by omega
    generalize rs3 ++ rs4 = rs5 at HTO5 HQ
    generalize q3 + q4 = q5 at HQ hqb ⊢
    clear hto5 ho5 ho3 ho3' ho4 ho4' hsrc hg5 hb5 hb4 hb3 b5 b4 b3 l3 l4 hq3 hq4 hz3 hz4
    go_wp2_with fail
    refine wp_region_noPanic ?_
    refine wp_region_held_drew (S := fun _ => True) (by kernel_rfl) trivial (fun hS => ?_)
    refine hd_take 0 (_) rfl rfl (by kernel_rfl) (by kernel_rfl) (by kernel_rfl) (fun _ _ _ h => h) (fun w _ => by go_simp <;> rfl) hS ?_
    refine hd_take 1 (_) rfl rfl (by kernel_rfl) (by kernel_rfl) (by kernel_rfl) (fun _ _ _ h => h) (fun w _ => by go_simp <;> rfl) hS ?_
    refine hd_take 2 (_) rfl rfl (by kernel_rfl) (by kernel_rfl) (by kernel_rfl) (fun _ _ _ h => h) (fun w _ => by go_simp <;> rfl) hS ?_
    refine hd_take 5 (_) rfl rfl (by kernel_rfl) (by kernel_rfl) (by kernel_rfl) (fun _ _ _ h => h) (fun w _ => by go_simp <;> rfl) hS ?_
    refine hd_take 6 (_) rfl rfl (by kernel_rfl) (by kernel_rfl) (by kernel_rfl) (fun _ _ _ h => h) (fun w _ => by go_simp <;> rfl) hS ?_
    simp only [List.getElem_toArray, List.getElem_cons_succ, List.getElem_cons_zero, Act.put, List.setIfInBounds_toArray, List.set_cons_zero, List.set_cons_succ]
    refine hd_take 3 (_) rfl rfl (by kernel_rfl) (by kernel_rfl) (by kernel_rfl) (fun _ _ _ h => h) (fun w _ => by go_simp <;> rfl) hS ?_
    refine hd_take 7 (_) rfl rfl (by kernel_rfl) (by kernel_rfl) (by kernel_rfl) (fun _ _ _ h => h) (fun w _ => by go_simp <;> rfl) hS ?_
    simp only [List.getElem_toArray, List.getElem_cons_succ, List.getElem_cons_zero, Act.put, List.setIfInBounds_toArray, List.set_cons_zero, List.set_cons_succ]
    refine hd_calls 4 62 #[.slice A k c] rfl rfl (by kernel_rfl) (by go_simp) ((HR1.out _ HB5.out.drew).mono ?_)
    rintro e w6 ⟨rfl, hb6⟩
    have b6 := bel_on HB5.out.drew hb6
    refine ⟨_, rfl, trivial, ?_⟩
    simp only [List.getElem_toArray, List.getElem_cons_succ, List.getElem_cons_zero, Act.put, List.setIfInBounds_toArray, List.set_cons_zero, List.set_cons_succ]
    refine hd_calls 8 62 #[.slice (dropK A k c) (n - k) (c - k)] rfl rfl (by kernel_rfl) (by go_simp) ((HR2.out _ b6).mono ?_)
    rintro e w7 ⟨rfl, hb7⟩
    have b7 := bel_on b6 hb7
    refine ⟨_, rfl, trivial, ?_⟩
    simp only [List.getElem_toArray, List.getElem_cons_succ, List.getElem_cons_zero, Act.put, List.setIfInBounds_toArray, List.set_cons_zero, List.set_cons_succ]
    refine hd_calls 9 128 #[.agg (cellsB r1).toArray, .agg (cellsB r2).toArray] rfl rfl (by kernel_rfl) (by go_simp) ((HNT.out _).mono ?_)
    rintro e w8 ⟨⟨A8, c8, rfl, ho8⟩, hb8⟩
    have b8 := bel_on b7 hb8
    refine ⟨_, rfl, trivial, ?_⟩
    simp only [List.getElem_toArray, List.getElem_cons_succ, List.getElem_cons_zero, Act.put, List.setIfInBounds_toArray, List.set_cons_zero, List.set_cons_succ]
    have to8 := ((((HTO5.out.below (Below.refl _ _).drew).below hb6).below hb7).below hb8).below (alloc_bel w8 (.cells #[.slice A8 33 c8] 24))
    have o9 := (ho8.below (alloc_bel w8 (.cells #[.slice A8 33 c8] 24))).le_ (show w.drew.heap.size ≤ w7.heap.size from b7.size)
    have b9 : Below w.heap.size w (w8.alloc (.cells #[.slice A8 33 c8] 24)) := b8.alloc b8.size _
    have hsrc := src_one w8 (.slice A8 33 c8) 24
    refine hd_sole 10 (by kernel_rfl) (op_run (.slice (some ⟨w8.heap.size, 0, none⟩) 1 1) (w8.alloc (.cells #[.slice A8 33 c8] 24)) rfl rfl (by go_simp) ⟨trivial, ?_⟩)
    simp only [List.getElem_toArray, List.getElem_cons_succ, List.getElem_cons_zero, Act.put, List.setIfInBounds_toArray, List.set_cons_zero, List.set_cons_succ]
    refine hd_appendR 11 (.tmp 30) (.tmp 40) rfl rfl rfl (by kernel_rfl) w.drew.heap.size A5 q5 c5 rs5 HQ.out rfl to8.2.1 (some ⟨w8.heap.size, 0, none⟩) 1 1 [⟨A8, c8, nt⟩] rfl rfl (by simpa only [List.map_cons, List.map_nil, BRow.v, HNL.out] using hsrc) (by omega) b9.size ?_
    intro A10 c10 w10 ho10 hb10 hg10
    rw [← HQ.out] at hg10
    have hto10 : TO w.drew.heap.size w10 A10 c10 (rs5 ++ [⟨A8, c8, nt⟩]) ((x1 ++ x2) ++ [nt]) := ⟨by rw [List.map_append, to8.1]; rfl, ho10, fun r hr => by
      rcases List.mem_append.1 hr with hr | hr
      · exact own_kept (to8.2.2 r hr) to8.2.1 (by decide) hg10
      · rw [List.mem_singleton.1 hr]; exact own_kept o9 to8.2.1 (by decide) hg10⟩
    have b10 : Below w.heap.size w w10 := b9.trans hb10
    refine ⟨trivial, ?_⟩
    simp only [List.getElem_toArray, List.getElem_cons_succ, List.getElem_cons_zero, Act.put, List.setIfInBounds_toArray, List.set_cons_zero, List.set_cons_succ]
    refine hd_take 12 (.slice A10 (q5 + 1) c10) rfl rfl (by kernel_rfl) (by kernel_rfl) (by kernel_rfl) (fun _ _ _ h => h) (fun w _ => by go_simp) trivial ?_
    refine wpAnyH_done (by kernel_rfl) (NoPanic.normal ?_) _
    simp only [List.getElem_toArray, List.getElem_cons_succ, List.getElem_cons_zero, Act.put, List.setIfInBounds_toArray, List.set_cons_zero, List.set_cons_succ]
    have HTO10 := Lib.hid hto10
    have HB10 := Lib.hid b10
    have HQ10 : Hid ((rs5 ++ [(⟨A8, c8, nt⟩ : BRow)]).length = q5 + 1) := by unfold Hid; rw [List.length_append, HQ.out]; rfl
    clear hto10 ho10 to8 o9 hsrc hg10 hb10 b10 b9 b8 ho8 hb8
    go_wp2_with fail
    go_ret
    exact ⟨⟨A10, c10, _, by rw [HQ10.out]; rfl, by rw [HTEXT.out]; have := HTO10.out; rw [List.append_assoc] at this; exact this⟩, HB10.out⟩

set_option maxHeartbeats 1000000 in
theorem refTexts_any (ks : List (List UInt8)) (A : Option Addr) (c : Nat) (w : World) {n : Nat} (hn : ks.length = n) (h : KR w A c ks) :
    Calls Try.prog 18 #[.slice A n c] w fun e w' => TxEnd (textsR ks).1 (textsR ks).2 e w' ∧ Below w.heap.size w w' := by
  have hnl : (n : Int) ≤ 140737488351232 := by have := h.len; omega
  rcases Nat.lt_or_ge 128 n with hw | hw
  · have HS : Hid (textsR ks = ([], 4)) := by unfold Hid textsR; rw [if_pos (by omega)]
    have hbi : (128 : Int) < n := by omega
    clear hn h hw
    go_enter Try.func18, Try.ntmps18
    go_wp2
    go_ret2
    rw [HS.out]
    exact ⟨⟨none, 0, [], rfl, rfl, RR.nil _⟩, Below.refl _ _⟩
  · have HS : Hid (textsR ks = (textsS ks, 0)) := by unfold Hid textsR; rw [if_neg (by omega)]
    have hwi : (n : Int) ≤ 128 := by omega
    have hle : (textsS ks).length ≤ 100000 := by
      rcases Nat.lt_or_ge n 1 with h1 | h1
      · rw [List.eq_nil_of_length_eq_zero (show ks.length = 0 by omega), textsS_nil]; simp
      · have := textsS_le n ks hn h1; omega
    have HLE := Lib.hid hle
    have HSH := Lib.hid (textsS_short n ks hn h.2)
    have HF := Lib.hid (refTextsOf_any n ks A c w hn (by omega) h)
    generalize textsS ks = ts at HS HF HLE HSH
    clear hn h hw hle
    go_enter Try.func18, Try.ntmps18
    go_wp2_with (go_at_call 69; refine (HF.out).mono ?_; rintro e w1 ⟨⟨A1, c1, rs, rfl, ht1⟩, hb1⟩; have HT1 := Lib.hid ht1; have B1 := Lib.hid hb1; generalize hq : rs.length = q; have HQ := Lib.hid hq; clear ht1 hb1 hq)
    go_ret2
    rw [HS.out]
    exact ⟨⟨A1, c1, rs, by rw [HQ.out]; rfl, HT1.out.1, HT1.out.rr HLE.out HSH.out⟩, B1.out⟩
end Go.Proofs.Ytinpiodfpnbllaa

/- Which proofs and growths fit: the reference's test. -/
namespace Go.Proofs.Ytinpiodfpnbllaa
open Go.RowKit
set_option linter.unusedVariables false
set_option linter.unusedSimpArgs false

theorem stepsS_le : ∀ (n i : Nat), stepsS n i ≤ n := by
  intro n
  induction n using Nat.strongRecOn with
  | _ n ih =>
    intro i
    rcases Nat.lt_or_ge n 2 with h2 | h2
    · rw [stepsS_one (by omega)]; omega
    have s1 := splitS_lt h2
    have s2 := splitS_pos n
    by_cases hi : i < splitS n
    · rw [stepsS_low h2 hi]; have := ih (splitS n) s1 i; omega
    · rw [stepsS_high h2 hi]; have := ih (n - splitS n) (by omega) (i - splitS n); omega
theorem partsS_le : ∀ (n m : Nat) (wh : Bool), partsS n m wh ≤ n + 1 := by
  intro n
  induction n using Nat.strongRecOn with
  | _ n ih =>
    intro m wh
    rw [partsS]
    split
    · split <;> omega
    · rename_i h
      have s1 := splitS_lt (n := n) (by omega)
      have s2 := splitS_pos n
      dsimp only
      split
      · have := ih (splitS n) s1 m wh; omega
      · have := ih (n - splitS n) (by omega) (m - splitS n) false; omega

set_option maxHeartbeats 1000000 in
theorem refSteps_any (n : Nat) : ∀ (i : Nat) (w : World), 1 ≤ n → n ≤ 1000 → i < n →
    Calls Try.prog 133 #[.int .i64 (n : Int), .int .i64 (i : Int)] w fun e w' => e = .returned (.int .i64 ((stepsS n i : Nat) : Int)) ∧ w = w' := by
  induction n using Nat.strongRecOn with
  | _ n ih =>
    intro i w h1 hbig hi
    rcases Nat.lt_or_ge n 2 with h2 | h2
    · obtain rfl : n = 1 := by omega
      rw [stepsS_one (by omega)]
      clear ih
      go_enter Try.func133, Try.ntmps133
      go_wp2
      go_ret
      exact ⟨rfl, rfl⟩
    have s1 := splitS_lt h2
    have s2 := splitS_pos n
    have hni : (2 : Int) ≤ (n : Int) := by omega
    have hnb : (n : Int) ≤ 1000 := by omega
    have hne1 : ¬ (n : Int) = 1 := by omega
    have HSP : Hid (∀ W, Calls Try.prog 127 #[.int .i64 (n : Int)] W fun e w' => e = .returned (.int .i64 ((splitS n : Nat) : Int)) ∧ W = w') := fun W => refSplit_any n W h2 (by omega)
    by_cases hk : i < splitS n
    · have hki : (i : Int) < ((splitS n : Nat) : Int) := by omega
      have HST : Hid (stepsS n i = 1 + stepsS (splitS n) i) := stepsS_low h2 hk
      have HC : Hid (∀ W, Calls Try.prog 133 #[.int .i64 ((splitS n : Nat) : Int), .int .i64 (i : Int)] W fun e w' => e = .returned (.int .i64 ((stepsS (splitS n) i : Nat) : Int)) ∧ W = w') := fun W => ih (splitS n) s1 i W s2 (by omega) hk
      have hle := stepsS_le (splitS n) i
      generalize stepsS (splitS n) i = r at HST HC hle
      have hri : (r : Int) ≤ 1000 := by omega
      generalize splitS n = k at *
      clear ih hle hi hk
      go_enter Try.func133, Try.ntmps133
      go_wp2_with (first
        | (go_at_call 127; refine (HSP.out _).mono ?_; rintro e w1 ⟨rfl, rfl⟩)
        | (go_at_call 133; refine (HC.out _).mono ?_; rintro e w1 ⟨rfl, rfl⟩))
      go_ret
      exact ⟨by rw [HST.out]; go_num, rfl⟩
    · have hki : ¬ (i : Int) < ((splitS n : Nat) : Int) := by omega
      have hki2 : ((splitS n : Nat) : Int) ≤ (i : Int) := by omega
      have hkn : ((splitS n : Nat) : Int) < (n : Int) := by omega
      have hib : (i : Int) < (n : Int) := by omega
      have HST : Hid (stepsS n i = 1 + stepsS (n - splitS n) (i - splitS n)) := stepsS_high h2 hk
      have HC : Hid (∀ W, Calls Try.prog 133 #[.int .i64 ((n : Int) - ((splitS n : Nat) : Int)), .int .i64 ((i : Int) - ((splitS n : Nat) : Int))] W fun e w' => e = .returned (.int .i64 ((stepsS (n - splitS n) (i - splitS n) : Nat) : Int)) ∧ W = w') := fun W => by
        rw [show (n : Int) - ((splitS n : Nat) : Int) = ((n - splitS n : Nat) : Int) from by omega, show (i : Int) - ((splitS n : Nat) : Int) = ((i - splitS n : Nat) : Int) from by omega]
        exact ih (n - splitS n) (by omega) (i - splitS n) W (by omega) (by omega) (by omega)
      have hle := stepsS_le (n - splitS n) (i - splitS n)
      generalize stepsS (n - splitS n) (i - splitS n) = r at HST HC hle
      have hri : (r : Int) ≤ 1000 := by omega
      generalize splitS n = k at *
      clear ih hle hi hk
      go_enter Try.func133, Try.ntmps133
      go_wp2_with (first
        | (go_at_call 127; refine (HSP.out _).mono ?_; rintro e w1 ⟨rfl, rfl⟩)
        | (go_at_call 133; refine (HC.out _).mono ?_; rintro e w1 ⟨rfl, rfl⟩))
      go_ret
      exact ⟨by rw [HST.out]; go_num, rfl⟩

set_option maxHeartbeats 1000000 in
theorem refParts_any (n : Nat) : ∀ (m : Nat) (wh : Bool) (w : World), 1 ≤ m → m ≤ n → n ≤ 1000 →
    Calls Try.prog 135 #[.int .i64 (n : Int), .int .i64 (m : Int), .bool wh] w fun e w' => e = .returned (.int .i64 ((partsS n m wh : Nat) : Int)) ∧ w = w' := by
  induction n using Nat.strongRecOn with
  | _ n ih =>
    intro m wh w h1 hm hbig
    by_cases he : m = n
    · subst he
      rw [partsS_end]
      clear ih
      have hnb : (m : Int) ≤ 1000 := by omega
      cases wh with
      | true =>
        go_enter Try.func135, Try.ntmps135
        go_wp2
        go_ret
        exact ⟨rfl, rfl⟩
      | false =>
        go_enter Try.func135, Try.ntmps135
        go_wp2
        go_ret
        exact ⟨rfl, rfl⟩
    have h2 : 2 ≤ n := by omega
    have s1 := splitS_lt h2
    have s2 := splitS_pos n
    have hni : (2 : Int) ≤ (n : Int) := by omega
    have hnb : (n : Int) ≤ 1000 := by omega
    have hei : ¬ (m : Int) = (n : Int) := by omega
    have hmb : (m : Int) ≤ (n : Int) := by omega
    have HSP : Hid (∀ W, Calls Try.prog 127 #[.int .i64 (n : Int)] W fun e w' => e = .returned (.int .i64 ((splitS n : Nat) : Int)) ∧ W = w') := fun W => refSplit_any n W h2 (by omega)
    by_cases hk : m ≤ splitS n
    · have hki : (m : Int) ≤ ((splitS n : Nat) : Int) := by omega
      have HST : Hid (partsS n m wh = 1 + partsS (splitS n) m wh) := partsS_low wh h2 he hk
      have HC : Hid (∀ W, Calls Try.prog 135 #[.int .i64 ((splitS n : Nat) : Int), .int .i64 (m : Int), .bool wh] W fun e w' => e = .returned (.int .i64 ((partsS (splitS n) m wh : Nat) : Int)) ∧ W = w') := fun W => ih (splitS n) s1 m wh W h1 hk (by omega)
      have hle := partsS_le (splitS n) m wh
      generalize partsS (splitS n) m wh = r at HST HC hle
      have hri : (r : Int) ≤ 1001 := by omega
      generalize splitS n = k at *
      clear ih hle hm hk he
      go_enter Try.func135, Try.ntmps135
      go_wp2_with (first
        | (go_at_call 127; refine (HSP.out _).mono ?_; rintro e w1 ⟨rfl, rfl⟩)
        | (go_at_call 135; refine (HC.out _).mono ?_; rintro e w1 ⟨rfl, rfl⟩))
      go_ret
      exact ⟨by rw [HST.out]; go_num, rfl⟩
    · have hki : ¬ (m : Int) ≤ ((splitS n : Nat) : Int) := by omega
      have hki2 : ((splitS n : Nat) : Int) < (m : Int) := by omega
      have hkn : ((splitS n : Nat) : Int) < (n : Int) := by omega
      have HST : Hid (partsS n m wh = 1 + partsS (n - splitS n) (m - splitS n) false) := partsS_high wh h2 he hk
      have HC : Hid (∀ W, Calls Try.prog 135 #[.int .i64 ((n : Int) - ((splitS n : Nat) : Int)), .int .i64 ((m : Int) - ((splitS n : Nat) : Int)), .bool false] W fun e w' => e = .returned (.int .i64 ((partsS (n - splitS n) (m - splitS n) false : Nat) : Int)) ∧ W = w') := fun W => by
        rw [show (n : Int) - ((splitS n : Nat) : Int) = ((n - splitS n : Nat) : Int) from by omega, show (m : Int) - ((splitS n : Nat) : Int) = ((m - splitS n : Nat) : Int) from by omega]
        exact ih (n - splitS n) (by omega) (m - splitS n) false W (by omega) (by omega) (by omega)
      have hle := partsS_le (n - splitS n) (m - splitS n) false
      generalize partsS (n - splitS n) (m - splitS n) false = r at HST HC hle
      have hri : (r : Int) ≤ 1001 := by omega
      generalize splitS n = k at *
      clear ih hle hm hk he
      go_enter Try.func135, Try.ntmps135
      go_wp2_with (first
        | (go_at_call 127; refine (HSP.out _).mono ?_; rintro e w1 ⟨rfl, rfl⟩)
        | (go_at_call 135; refine (HC.out _).mono ?_; rintro e w1 ⟨rfl, rfl⟩))
      go_ret
      exact ⟨by rw [HST.out]; go_num, rfl⟩

set_option maxHeartbeats 2000000 in
set_option maxRecDepth 100000 in
theorem refFits_any (a b : Int) (A : Option Addr) (n c : Nat) (w : World) (hn : n ≤ 140737488351232) :
    Calls Try.prog 77 #[.agg (prC a b A n c).toArray] w fun e w' => e = .returned (.bool (fitsB a b n)) ∧ Below w.heap.size w w' := by
  have b0 := alloc_bel w (.cells #[.int .i64 a, .int .i64 b, .slice A n c] 52)
  have hni : (n : Int) ≤ 140737488351232 := by omega
  have c0 : (w.alloc (.cells #[.int .i64 a, .int .i64 b, .slice A n c] 52)).cell? ⟨w.heap.size, 0, none⟩ = some (.int .i64 a) := (Blk.new w _ _).cell 0
  have c1 : (w.alloc (.cells #[.int .i64 a, .int .i64 b, .slice A n c] 52)).cell? ⟨w.heap.size, 1, none⟩ = some (.int .i64 b) := (Blk.new w _ _).cell 1
  have c2 : (w.alloc (.cells #[.int .i64 a, .int .i64 b, .slice A n c] 52)).cell? ⟨w.heap.size, 2, none⟩ = some (.slice A n c) := (Blk.new w _ _).cell 2
  have C0 := Lib.hid c0
  have C1 := Lib.hid c1
  have C2 := Lib.hid c2
  clear c0 c1 c2
  unfold prC
  rcases (by omega : a < 1 ∨ (1 ≤ a ∧ 128 < a) ∨ (1 ≤ a ∧ a ≤ 128 ∧ b < 0) ∨ (1 ≤ a ∧ a ≤ 128 ∧ 0 ≤ b ∧ a ≤ b) ∨ (1 ≤ a ∧ a ≤ 128 ∧ 0 ≤ b ∧ b < a)) with h | ⟨h1, h2⟩ | ⟨h1, h2, h3⟩ | ⟨h1, h2, h3, h4⟩ | ⟨h1, h2, h3, h4⟩
  · have HF : Hid (fitsB a b n = false) := fitsB_no (by omega)
    have s0 : decide ((1 : Int) ≤ a) = false := by simp; omega
    clear hn
    go_enter Try.func77, Try.ntmps77
    go_wp2_with fail
    generalize w.alloc (.cells #[.int .i64 a, .int .i64 b, .slice A n c] 52) = W0 at C0 C1 C2 b0 ⊢
    have c0 := C0.out
    have c1 := C1.out
    have c2 := C2.out
    clear C0 C1 C2
    go_quiet (fail)
    go_wp2_with fail
    go_ret
    exact ⟨by rw [HF.out]; rfl, below_drewN b0 _⟩
  · have HF : Hid (fitsB a b n = false) := fitsB_no (by omega)
    have s0 : decide ((1 : Int) ≤ a) = true := by simp; omega
    have s1 : decide (a ≤ 128) = false := by simp; omega
    clear hn
    go_enter Try.func77, Try.ntmps77
    go_wp2_with fail
    generalize w.alloc (.cells #[.int .i64 a, .int .i64 b, .slice A n c] 52) = W0 at C0 C1 C2 b0 ⊢
    have c0 := C0.out
    have c1 := C1.out
    have c2 := C2.out
    clear C0 C1 C2
    go_quiet (fail)
    go_wp2_with fail
    go_ret
    exact ⟨by rw [HF.out]; rfl, below_drewN b0 _⟩
  · have HF : Hid (fitsB a b n = false) := fitsB_no (by omega)
    have s0 : decide ((1 : Int) ≤ a) = true := by simp; omega
    have s1 : decide (a ≤ 128) = true := by simp; omega
    have s2 : decide ((0 : Int) ≤ b) = false := by simp; omega
    clear hn
    go_enter Try.func77, Try.ntmps77
    go_wp2_with fail
    generalize w.alloc (.cells #[.int .i64 a, .int .i64 b, .slice A n c] 52) = W0 at C0 C1 C2 b0 ⊢
    have c0 := C0.out
    have c1 := C1.out
    have c2 := C2.out
    clear C0 C1 C2
    go_quiet (fail)
    go_wp2_with fail
    go_ret
    exact ⟨by rw [HF.out]; rfl, below_drewN b0 _⟩
  · have HF : Hid (fitsB a b n = false) := fitsB_no (by omega)
    have s0 : decide ((1 : Int) ≤ a) = true := by simp; omega
    have s1 : decide (a ≤ 128) = true := by simp; omega
    have s2 : decide ((0 : Int) ≤ b) = true := by simp; omega
    have s3 : decide (b < a) = false := by simp; omega
    clear hn
    go_enter Try.func77, Try.ntmps77
    go_wp2_with fail
    generalize w.alloc (.cells #[.int .i64 a, .int .i64 b, .slice A n c] 52) = W0 at C0 C1 C2 b0 ⊢
    have c0 := C0.out
    have c1 := C1.out
    have c2 := C2.out
    clear C0 C1 C2
    go_quiet (fail)
    go_wp2_with fail
    go_ret
    exact ⟨by rw [HF.out]; rfl, below_drewN b0 _⟩
  · have HF0 : fitsB a b n = decide (n = stepsS a.toNat b.toNat) := fitsB_in (by omega)
    obtain ⟨p, rfl⟩ : ∃ p : Nat, a = (p : Int) := ⟨a.toNat, by omega⟩
    obtain ⟨q, rfl⟩ : ∃ q : Nat, b = (q : Int) := ⟨b.toNat, by omega⟩
    rw [Int.toNat_natCast, Int.toNat_natCast] at HF0
    have HC : Hid (∀ W, Calls Try.prog 133 #[.int .i64 (p : Int), .int .i64 (q : Int)] W fun e w' => e = .returned (.int .i64 ((stepsS p q : Nat) : Int)) ∧ W = w') := fun W => refSteps_any p q W (by omega) (by omega) (by omega)
    have hle := stepsS_le p q
    generalize stepsS p q = T at HF0 HC hle
    have hTi : (T : Int) ≤ 1001 := by omega
    have s0 : decide ((1 : Int) ≤ (p : Int)) = true := by simp; omega
    have s1 : decide ((p : Int) ≤ 128) = true := by simp; omega
    have s2 : decide ((0 : Int) ≤ (q : Int)) = true := by simp
    have s3 : decide (q < p) = true := by simp; omega
    have s4 : decide ((q : Int) < (p : Int)) = true := by simp; omega
    by_cases he : n = T
    · have HF : Hid (fitsB (p : Int) (q : Int) n = true) := by unfold Hid; rw [HF0, decide_eq_true he]
      subst he
      clear HF0 hn hle
      go_enter Try.func77, Try.ntmps77
      go_wp2_with fail
      generalize w.alloc (.cells #[.int .i64 (p : Int), .int .i64 (q : Int), .slice A n c] 52) = W0 at C0 C1 C2 b0 ⊢
      have c0 := C0.out
      have c1 := C1.out
      have c2 := C2.out
      clear C0 C1 C2
      go_quiet ((go_at_call 133; exact quiet_left' (HC.out _)))
      go_wp2_with fail
      go_ret
      exact ⟨by rw [HF.out]; rfl, below_drewN b0 _⟩
    · have HF : Hid (fitsB (p : Int) (q : Int) n = false) := by unfold Hid; rw [HF0, decide_eq_false he]
      have hei : ((n : Int) == (T : Int)) = false := by rw [beq_eq_false_iff_ne]; omega
      have hei2 : (n == T) = false := by rw [beq_eq_false_iff_ne]; omega
      clear HF0 hn hle he
      go_enter Try.func77, Try.ntmps77
      go_wp2_with fail
      generalize w.alloc (.cells #[.int .i64 (p : Int), .int .i64 (q : Int), .slice A n c] 52) = W0 at C0 C1 C2 b0 ⊢
      have c0 := C0.out
      have c1 := C1.out
      have c2 := C2.out
      clear C0 C1 C2
      go_quiet ((go_at_call 133; exact quiet_left' (HC.out _)))
      go_wp2_with fail
      go_ret
      exact ⟨by rw [HF.out]; rfl, below_drewN b0 _⟩

set_option maxHeartbeats 2000000 in
set_option maxRecDepth 100000 in
theorem refFitsGrowth_any (a b : Int) (A : Option Addr) (n c : Nat) (w : World) (hn : n ≤ 140737488351232) :
    Calls Try.prog 83 #[.agg (prC a b A n c).toArray] w fun e w' => e = .returned (.bool (fitsGB a b n)) ∧ Below w.heap.size w w' := by
  have b0 := alloc_bel w (.cells #[.int .i64 a, .int .i64 b, .slice A n c] 59)
  have hni : (n : Int) ≤ 140737488351232 := by omega
  have c0 : (w.alloc (.cells #[.int .i64 a, .int .i64 b, .slice A n c] 59)).cell? ⟨w.heap.size, 0, none⟩ = some (.int .i64 a) := (Blk.new w _ _).cell 0
  have c1 : (w.alloc (.cells #[.int .i64 a, .int .i64 b, .slice A n c] 59)).cell? ⟨w.heap.size, 1, none⟩ = some (.int .i64 b) := (Blk.new w _ _).cell 1
  have c2 : (w.alloc (.cells #[.int .i64 a, .int .i64 b, .slice A n c] 59)).cell? ⟨w.heap.size, 2, none⟩ = some (.slice A n c) := (Blk.new w _ _).cell 2
  have C0 := Lib.hid c0
  have C1 := Lib.hid c1
  have C2 := Lib.hid c2
  clear c0 c1 c2
  unfold prC
  rcases (by omega : a < 1 ∨ (1 ≤ a ∧ b < a) ∨ (1 ≤ a ∧ a ≤ b ∧ 128 < b) ∨ (1 ≤ a ∧ a ≤ b ∧ b ≤ 128)) with h | ⟨h1, h2⟩ | ⟨h1, h2, h3⟩ | ⟨h1, h2, h3⟩
  · have HF : Hid (fitsGB a b n = false) := fitsGB_no (by omega)
    have s0 : decide ((1 : Int) ≤ a) = false := by simp; omega
    clear hn
    go_enter Try.func83, Try.ntmps83
    go_wp2_with fail
    generalize w.alloc (.cells #[.int .i64 a, .int .i64 b, .slice A n c] 59) = W0 at C0 C1 C2 b0 ⊢
    have c0 := C0.out
    have c1 := C1.out
    have c2 := C2.out
    clear C0 C1 C2
    go_quiet (fail)
    go_wp2_with fail
    go_ret
    exact ⟨by rw [HF.out]; rfl, below_drewN b0 _⟩
  · have HF : Hid (fitsGB a b n = false) := fitsGB_no (by omega)
    have s0 : decide ((1 : Int) ≤ a) = true := by simp; omega
    have s1 : decide (a ≤ b) = false := by simp; omega
    clear hn
    go_enter Try.func83, Try.ntmps83
    go_wp2_with fail
    generalize w.alloc (.cells #[.int .i64 a, .int .i64 b, .slice A n c] 59) = W0 at C0 C1 C2 b0 ⊢
    have c0 := C0.out
    have c1 := C1.out
    have c2 := C2.out
    clear C0 C1 C2
    go_quiet (fail)
    go_wp2_with fail
    go_ret
    exact ⟨by rw [HF.out]; rfl, below_drewN b0 _⟩
  · have HF : Hid (fitsGB a b n = false) := fitsGB_no (by omega)
    have s0 : decide ((1 : Int) ≤ a) = true := by simp; omega
    have s1 : decide (a ≤ b) = true := by simp; omega
    have s2 : decide (b ≤ 128) = false := by simp; omega
    clear hn
    go_enter Try.func83, Try.ntmps83
    go_wp2_with fail
    generalize w.alloc (.cells #[.int .i64 a, .int .i64 b, .slice A n c] 59) = W0 at C0 C1 C2 b0 ⊢
    have c0 := C0.out
    have c1 := C1.out
    have c2 := C2.out
    clear C0 C1 C2
    go_quiet (fail)
    go_wp2_with fail
    go_ret
    exact ⟨by rw [HF.out]; rfl, below_drewN b0 _⟩
  · have HF0 : fitsGB a b n = decide (n = partsS b.toNat a.toNat true) := fitsGB_in (by omega)
    obtain ⟨p, rfl⟩ : ∃ p : Nat, a = (p : Int) := ⟨a.toNat, by omega⟩
    obtain ⟨q, rfl⟩ : ∃ q : Nat, b = (q : Int) := ⟨b.toNat, by omega⟩
    rw [Int.toNat_natCast, Int.toNat_natCast] at HF0
    have HC : Hid (∀ W, Calls Try.prog 135 #[.int .i64 (q : Int), .int .i64 (p : Int), .bool true] W fun e w' => e = .returned (.int .i64 ((partsS q p true : Nat) : Int)) ∧ W = w') := fun W => refParts_any q p true W (by omega) (by omega) (by omega)
    have hle := partsS_le q p true
    generalize partsS q p true = T at HF0 HC hle
    have hTi : (T : Int) ≤ 1001 := by omega
    have s0 : decide ((1 : Int) ≤ (p : Int)) = true := by simp; omega
    have s1 : decide ((q : Int) ≤ 128) = true := by simp; omega
    have s3 : decide (p ≤ q) = true := by simp; omega
    have s4 : decide ((p : Int) ≤ (q : Int)) = true := by simp; omega
    by_cases he : n = T
    · have HF : Hid (fitsGB (p : Int) (q : Int) n = true) := by unfold Hid; rw [HF0, decide_eq_true he]
      subst he
      clear HF0 hn hle
      go_enter Try.func83, Try.ntmps83
      go_wp2_with fail
      generalize w.alloc (.cells #[.int .i64 (p : Int), .int .i64 (q : Int), .slice A n c] 59) = W0 at C0 C1 C2 b0 ⊢
      have c0 := C0.out
      have c1 := C1.out
      have c2 := C2.out
      clear C0 C1 C2
      go_quiet ((go_at_call 135; exact quiet_left' (HC.out _)))
      go_wp2_with fail
      go_ret
      exact ⟨by rw [HF.out]; rfl, below_drewN b0 _⟩
    · have HF : Hid (fitsGB (p : Int) (q : Int) n = false) := by unfold Hid; rw [HF0, decide_eq_false he]
      have hei : ((n : Int) == (T : Int)) = false := by rw [beq_eq_false_iff_ne]; omega
      have hei2 : (n == T) = false := by rw [beq_eq_false_iff_ne]; omega
      clear HF0 hn hle he
      go_enter Try.func83, Try.ntmps83
      go_wp2_with fail
      generalize w.alloc (.cells #[.int .i64 (p : Int), .int .i64 (q : Int), .slice A n c] 59) = W0 at C0 C1 C2 b0 ⊢
      have c0 := C0.out
      have c1 := C1.out
      have c2 := C2.out
      clear C0 C1 C2
      go_quiet ((go_at_call 135; exact quiet_left' (HC.out _)))
      go_wp2_with fail
      go_ret
      exact ⟨by rw [HF.out]; rfl, below_drewN b0 _⟩
end Go.Proofs.Ytinpiodfpnbllaa

/- The root that a path gives: the reference's. -/
namespace Go.Proofs.Ytinpiodfpnbllaa
open Go.RowKit
set_option linter.unusedVariables false
set_option linter.unusedSimpArgs false
attribute [local go_sem] run_storeCells_key run_storeCells_new

theorem TO.row {B : Nat} {w : World} {A : Option Addr} {c : Nat} {rs : List BRow} {ts : List (List UInt8)} (h : TO B w A c rs ts) {g : Nat} {cs : Array Value} (hb : Blk w g 23 cs) (cs' : Array Value) : TO B (w.setRow g cs') A c rs ts :=
  ⟨h.1, own_row_apart h.2.1 hb (by decide) cs', fun r hr => own_row_apart (h.2.2 r hr) hb (by decide) cs'⟩
theorem TO.snoc {B : Nat} {w w' : World} {A A' : Option Addr} {c c' : Nat} {rs : List BRow} {ts : List (List UInt8)} (h : TO B w A c rs ts) {X : Option Addr} {d : Nat} {t : List UInt8} (ho : OB B w X d t) (h' : RO B w' A' c' (rs ++ [⟨X, d, t⟩])) (hg : w.grownBy w' (Value.ownBlock (.slice A rs.length c))) : TO B w' A' c' (rs ++ [⟨X, d, t⟩]) (ts ++ [t]) :=
  ⟨by rw [List.map_append, h.1]; rfl, h', fun r hr => by
    rcases List.mem_append.1 hr with hr | hr
    · exact own_kept (h.2.2 r hr) h.2.1 (by decide) hg
    · rw [List.mem_singleton.1 hr]; exact own_kept ho h.2.1 (by decide) hg⟩

set_option maxHeartbeats 2000000 in
set_option maxRecDepth 100000 in
theorem refGiven_one (i : Nat) (leaf : List UInt8) (hl : leaf.length = 16) (path : List (List UInt8)) (m : Nat) (A : Option Addr) (c : Nat) (w : World) :
    Calls Try.prog 80 #[.agg (cellsB leaf).toArray, .int .i64 1, .int .i64 (i : Int), .slice A m c] w fun e w' => (∃ X x rs, e = .returned (.tuple #[.agg (cellsB (climbS leaf 1 i path).1).toArray, .slice X rs.length x]) ∧ TO w.heap.size w' X x rs (climbS leaf 1 i path).2) ∧ Below w.heap.size w w' := by
  rw [climbS_one _ (by omega)]
  have HZ := Lib.hid zero16
  have HK := Lib.hid hl
  have b0 := alloc2_bel w (.cells (cellsB leaf).toArray 23) (.cells (cellsB zeroK).toArray 23)
  have B0 := Lib.hid (blk_b0 w (cellsB leaf).toArray 23 (.cells (cellsB zeroK).toArray 23))
  have B1 := Lib.hid (blk_b1 w (.cells (cellsB leaf).toArray 23) (cellsB zeroK).toArray 23)
  have HLT : Hid (∀ W, Calls Try.prog 126 #[.agg (cellsB leaf).toArray] W fun e w' => (∃ A c, e = .returned (.slice A 17 c) ∧ OB W.heap.size w' A c (leafT leaf)) ∧ Below W.heap.size W w') := fun W => refLeafText_any leaf W hl
  have HLL : Hid ((leafT leaf).length = 17) := by unfold Hid leafT; simp [hl]
  dsimp only
  generalize leafT leaf = t at HLT HLL ⊢
  have HD : Hid (∀ X d W, BR W X d t → Calls Try.prog 125 #[.slice X 17 d] W fun e w' => e = .returned (.agg (cellsB (digS t)).toArray) ∧ Below W.heap.size W w') := fun X d W h => refDigest_any t X d W HLL.out h (by omega)
  have HDL : Hid ((digS t).length = 16) := digS_length _
  generalize digS t = dg at HDL HD ⊢
  have hdc : (cellsB dg).length = 16 := by rw [cellsB_length, HDL.out]
  have hall := all16 dg
  clear hl
  go_enter Try.func80, Try.ntmps80
  go_wp2_with (first
    | (refine wpList_load_row rfl 23 (.tmp 4) rfl w.heap.size rfl 23 (cellsB leaf).toArray (0, 0) _ (by rw [HZ.out]; exact B0.out) under_key rfl (cellsB_size _ HK.out) ?_)
    | (go_at_call 126; rw [HZ.out]; refine (HLT.out _).mono ?_; rintro e w1 ⟨⟨A1, c1, rfl, ho1⟩, hb1⟩; have b1 := bel_on b0 hb1; have O1 := Lib.hid ho1; have Q1 := Lib.hid (B1.out.below' hb1); clear ho1 hb1)
    | (go_at_call 125; refine (HD.out _ _ _ (O1.out.br (by rw [HLL.out]; omega))).mono ?_; rintro e w2 ⟨rfl, hb2⟩; have O2 := Lib.hid ((O1.out.below hb2).below (alloc_bel w2 (.cells #[.slice A1 17 c1] 24))); have Q2 := (Q1.out.below' hb2).alloc (.cells #[.slice A1 17 c1] 24); have b2 := bel_on (bel_on b1 hb2) (alloc_bel w2 (.cells #[.slice A1 17 c1] 24)); have hr2 : (rowAt (w2.alloc (.cells #[.slice A1 17 c1] 24)) (w.heap.size + 1)).size = 16 := (by rw [Q2.row]; rfl); have hf2 := Q2.free; have HQ2 := Lib.hid Q2; have hz2 : w.heap.size ≤ w2.heap.size := (bel_on b1 hb2).size; clear Q2 hb2))
  refine bodyPost_ret (v := .tuple #[.agg (cellsB dg).toArray, .slice (some ⟨w2.heap.size, 0, none⟩) 1 1]) ?_ rfl ⟨⟨some ⟨w2.heap.size, 0, none⟩, 1, [⟨A1, c1, t⟩], rfl, TO.row ⟨rfl, ?_, fun r hr => ?_⟩ HQ2.out _⟩, below_setRow b2 (by omega) _⟩
  · rw [results_cell_tmp Try.results80]
    simp [asAddr, Result.andThen, run_loadVar_row _ (w.heap.size + 1) _ _ _ (0, 0) _ (HQ2.out.setRow (cellsB dg).toArray) under_key rfl (cellsB_size _ HDL.out)]
  · have := RO.lit w.heap.size w2 ⟨A1, c1, t⟩ hz2
    simpa only [BRow.v, HLL.out] using this
  · rw [List.mem_singleton.1 hr]
    exact O2.out.le_ b0.size

set_option maxHeartbeats 4000000 in
set_option maxRecDepth 100000 in
theorem refGiven_any (leaf : List UInt8) (hl : leaf.length = 16) (n : Nat) : ∀ (i : Nat) (path : List (List UInt8)) (A : Option Addr) (c : Nat) (w : World), 1 ≤ n → n ≤ 1000 → i < n → path.length = stepsS n i → KR w A c path →
    Calls Try.prog 80 #[.agg (cellsB leaf).toArray, .int .i64 (n : Int), .int .i64 (i : Int), .slice A path.length c] w fun e w' => (∃ X x rs, e = .returned (.tuple #[.agg (cellsB (climbS leaf n i path).1).toArray, .slice X rs.length x]) ∧ TO w.heap.size w' X x rs (climbS leaf n i path).2) ∧ Below w.heap.size w w' := by
  induction n using Nat.strongRecOn with
  | _ n ih =>
    intro i path A c w h1n hbig hin hp h
    rcases Nat.lt_or_ge n 2 with h2 | h2
    · obtain rfl : n = 1 := by omega
      exact refGiven_one i leaf hl path path.length A c w
    have hs1 := splitS_pos n
    have hs2 := splitS_lt h2
    have hni : (2 : Int) ≤ (n : Int) := by omega
    have hnb : (n : Int) ≤ 1000 := by omega
    have hib : (i : Int) < (n : Int) := by omega
    have hne1 : ¬ (n : Int) = 1 := by omega
    have hcl := Rd.le h.1
    have hcap := Rd.len h.1
    have HSP : Hid (∀ W, Calls Try.prog 127 #[.int .i64 (n : Int)] W fun e w' => e = .returned (.int .i64 ((splitS n : Nat) : Int)) ∧ W = w') := fun W => refSplit_any n W h2 (by omega)
    have b0 := alloc2_bel w (.cells (cellsB leaf).toArray 23) (.cells (cellsB zeroK).toArray 23)
    have B0 := Lib.hid (blk_b0 w (cellsB leaf).toArray 23 (.cells (cellsB zeroK).toArray 23))
    have B1 := Lib.hid (blk_b1 w (.cells (cellsB leaf).toArray 23) (cellsB zeroK).toArray 23)
    have HZ := Lib.hid zero16
    have HK := Lib.hid hl
    by_cases hk : i < splitS n
    · have hki : (i : Int) < ((splitS n : Nat) : Int) := by omega
      obtain ⟨m, hm⟩ : ∃ m, path.length = m + 1 := ⟨path.length - 1, by rw [hp, stepsS_low h2 hk]; omega⟩
      rw [climbS_low _ _ h2 hk]
      have hql := climbS_length leaf (splitS n) (i) (initK path)
      have hqn := climbS_le leaf (splitS n) (i) (initK path) (by omega)
      have HC : Hid (∀ W, Below w.heap.size w W → Calls Try.prog 80 #[.agg (cellsB leaf).toArray, .int .i64 ((splitS n : Nat) : Int), .int .i64 (i : Int), .slice A m c] W fun e w' => (∃ X x rs, e = .returned (.tuple #[.agg (cellsB (climbS leaf (splitS n) i (initK path)).1).toArray, .slice X rs.length x]) ∧ TO W.heap.size w' X x rs (climbS leaf (splitS n) i (initK path)).2) ∧ Below W.heap.size W w') := fun W hW => by
        have hlen : m = (initK path).length := by rw [initK_length, hm]; omega
        rw [hlen]
        exact ih (splitS n) hs2 i (initK path) _ c W hs1 (by omega) hk (by rw [initK_length, hp, stepsS_low h2 hk]; omega) (h.below hW).init
      obtain ⟨b, off, rfl, hb, hr, hhl⟩ := h.lastAt hm
      have HR : Hid (∀ W, Below w.heap.size w W → W.rangeAt b (off + m * 16) (cellsB (lastK path))) := fun W hW => range_below hr hW
      have HH := Lib.hid hhl
      have hmi : (m : Int) ≤ 140737488351232 := by omega
      have hmc : m ≤ c := by omega
      have hmlt : (m : Int) < (m : Int) + 1 := by omega
      have hsl := fun W => slice_keys_to W (some ⟨b, off, none⟩) (m + 1) c m hmc
      have hwm : IntKind.i64.wrap ((m : Nat) : Int) = (m : Int) := by rw [IntKind.wrap_i64]; omega
      generalize climbS leaf (splitS n) i (initK path) = r at HC hql hqn ⊢
      obtain ⟨q, x⟩ := r
      dsimp only at HC hql hqn ⊢
      generalize lastK path = h0 at HR HH ⊢
      rw [hm]
      generalize splitS n = k at *
      have HQL := Lib.hid hql
      have HQN : Hid (x.length ≤ 1000) := by unfold Hid; omega
      have HNT : Hid (∀ W, Calls Try.prog 128 #[.agg (cellsB q).toArray, .agg (cellsB h0).toArray] W fun e w' => (∃ A c, e = .returned (.slice A 33 c) ∧ OB W.heap.size w' A c (nodeT q h0)) ∧ Below W.heap.size W w') := fun W => refNodeText_any q h0 W (by first | exact hql | exact HH.out) (by first | exact HH.out | exact hql)
      have HNL : Hid ((nodeT q h0).length = 33) := by unfold Hid nodeT; simp [hql, HH.out]
      generalize nodeT q h0 = t at HNT HNL ⊢
      have HD : Hid (∀ X d W, BR W X d t → Calls Try.prog 125 #[.slice X 33 d] W fun e w' => e = .returned (.agg (cellsB (digS t)).toArray) ∧ Below W.heap.size W w') := fun X d W h => refDigest_any t X d W HNL.out h (by omega)
      have HDL : Hid ((digS t).length = 16) := digS_length _
      generalize digS t = dg at HDL HD ⊢
      have hdc : (cellsB dg).length = 16 := by rw [cellsB_length, HDL.out]
      have hall := all16 dg
      have hqc : (cellsB q).length = 16 := by rw [cellsB_length, hql]
      have hqa := all16 q
      have HBW : Hid (b < w.heap.size) := hb
      clear ih h hp hm hr hhl hb hl hql hqn
      go_enter Try.func80, Try.ntmps80
      go_wp2_with (go_at_call 127; rw [HZ.out]; refine (HSP.out _).mono ?_; rintro e w1 ⟨rfl, rfl⟩)
      obtain ⟨W0, hW0⟩ : ∃ W : World, W = (w.alloc (.cells (cellsB leaf).toArray 23)).alloc (.cells (cellsB zeroK).toArray 23) := ⟨_, rfl⟩
      have hz0 : W0.heap.size = w.heap.size + 1 + 1 := by rw [hW0]; simp
      rw [← hW0] at b0 B0 B1 ⊢
      clear hW0
      refine wp_region_noPanic ?_
      have bw : Below w.heap.size w W0.drew := b0.drew
      refine wp_region_held_drew (S := fun w' => w'.rangeAt b (off + m * 16) (cellsB h0)) (by kernel_rfl) (HR.out _ bw) (fun hS => ?_)
      refine hd_take 0 (_) rfl rfl (by kernel_rfl) (by kernel_rfl) (by kernel_rfl) (fun _ _ _ h => h) (fun w _ => by go_simp <;> rfl) hS ?_
      refine hd_take 1 (_) rfl rfl (by kernel_rfl) (by kernel_rfl) (by kernel_rfl) (fun _ _ _ h => h) (fun w _ => by go_simp <;> rfl) hS ?_
      refine hd_take 5 (_) rfl rfl (by kernel_rfl) (by kernel_rfl) (by kernel_rfl) (fun _ _ _ h => h) (fun w _ => by go_simp <;> rfl) hS ?_
      refine hd_take 6 (_) rfl rfl (by kernel_rfl) (by kernel_rfl) (by kernel_rfl) (fun _ _ _ h => h) (fun w _ => by go_simp <;> rfl) hS ?_
      simp only [List.getElem_toArray, List.getElem_cons_succ, List.getElem_cons_zero, Act.put, List.setIfInBounds_toArray, List.set_cons_zero, List.set_cons_succ]
      refine hd_take 2 (_) rfl rfl (by kernel_rfl) (by kernel_rfl) (by kernel_rfl) (fun _ _ _ h => h) (fun w _ => by go_simp <;> rfl) hS ?_
      refine hd_take 7 (_) rfl rfl (by kernel_rfl) (by kernel_rfl) (by kernel_rfl) (fun _ _ _ h => h) (fun w _ => by go_simp <;> rfl) hS ?_
      simp only [List.getElem_toArray, List.getElem_cons_succ, List.getElem_cons_zero, Act.put, List.setIfInBounds_toArray, List.set_cons_zero, List.set_cons_succ]
      refine hd_take 3 (_) rfl rfl (by kernel_rfl) (by kernel_rfl) (by kernel_rfl) (fun _ _ _ h => h) (fun w _ => by go_simp <;> rfl) hS ?_
      refine hd_take 8 (_) rfl rfl (by kernel_rfl) (by kernel_rfl) (by kernel_rfl) (fun _ _ _ h => h) (fun w _ => by go_simp <;> rfl) hS ?_
      simp only [List.getElem_toArray, List.getElem_cons_succ, List.getElem_cons_zero, Act.put, List.setIfInBounds_toArray, List.set_cons_zero, List.set_cons_succ]
      refine hd_take 4 (_) rfl rfl (by kernel_rfl) (by kernel_rfl) (by kernel_rfl) (fun _ _ _ h => h) (fun w _ => by go_simp <;> rfl) hS ?_
      refine hd_take 9 (_) rfl rfl (by kernel_rfl) (by kernel_rfl) (by kernel_rfl) (fun _ _ _ h => h) (fun w _ => by go_simp <;> rfl) hS ?_
      simp only [List.getElem_toArray, List.getElem_cons_succ, List.getElem_cons_zero, Act.put, List.setIfInBounds_toArray, List.set_cons_zero, List.set_cons_succ]
      refine hd_load 10 b (off + m * 16) (cellsB h0) _ _ rfl rfl rfl (by kernel_rfl) (by kernel_rfl) (by kernel_rfl) (fun _ _ _ h => h) rfl (fun w hw => hw) under_key rfl (key_info HH.out) hS ?_
      simp only [List.getElem_toArray, List.getElem_cons_succ, List.getElem_cons_zero, Act.put, List.setIfInBounds_toArray, List.set_cons_zero, List.set_cons_succ]
      have BA := alloc_bel W0.drew (.cells (cellsB zeroK).toArray 23)
      refine hd_sole 11 (by kernel_rfl) (op_run (.pointer (some ⟨W0.heap.size, 0, none⟩)) (W0.drew.alloc (.cells (cellsB zeroK).toArray 23)) rfl rfl (by rw [← HZ.out]; go_simp) ⟨HR.out _ (bel_on bw BA), ?_⟩)
      simp only [List.getElem_toArray, List.getElem_cons_succ, List.getElem_cons_zero, Act.put, List.setIfInBounds_toArray, List.set_cons_zero, List.set_cons_succ]
      have hS2 : (W0.drew.alloc (.cells (cellsB zeroK).toArray 23)).rangeAt b (off + m * 16) (cellsB h0) := HR.out _ (bel_on bw BA)
      refine hd_take 12 (.slice (some ⟨b, off, none⟩) m c) rfl rfl (by kernel_rfl) (by kernel_rfl) (by kernel_rfl) (fun _ _ _ h => h) (fun w _ => by go_simp) hS2 ?_
      simp only [List.getElem_toArray, List.getElem_cons_succ, List.getElem_cons_zero, Act.put, List.setIfInBounds_toArray, List.set_cons_zero, List.set_cons_succ]
      have N1 : Blk (W0.drew.alloc (.cells (cellsB zeroK).toArray 23)) W0.heap.size 23 (cellsB zeroK).toArray := Blk.new W0.drew _ _
      have hbb : W0.heap.size ≠ b := by have := HBW.out; omega
      have hS3 := range_setRow hS2 (g' := W0.heap.size) (by omega) (cellsB h0).toArray
      refine hd_store 13 W0.heap.size (cellsB h0).toArray _ _ _ rfl rfl rfl (by kernel_rfl) rfl rfl N1 (cellsB_size _ HH.out) (by rw [List.size_toArray, List.size_toArray, cellsB_length, cellsB_length, HH.out]; rfl) (all_oneCell_toArray (cells_one h0)) hS3 ?_
      refine wpAnyH_done (by kernel_rfl) (NoPanic.normal ?_) _
      have H1 := Lib.hid (N1.setRow (cellsB h0).toArray)
      have L1 := Lib.hid (show Blk ((W0.drew.alloc (.cells (cellsB zeroK).toArray 23)).setRow W0.heap.size (cellsB h0).toArray) w.heap.size _ _ from (setRow_other _ W0.heap.size w.heap.size (cellsB h0).toArray (by omega)).trans (B0.out.drew.alloc (.cells (cellsB zeroK).toArray 23)))
      have R1 := Lib.hid (show Blk ((W0.drew.alloc (.cells (cellsB zeroK).toArray 23)).setRow W0.heap.size (cellsB h0).toArray) (w.heap.size + 1) _ _ from (setRow_other _ W0.heap.size (w.heap.size + 1) (cellsB h0).toArray (by omega)).trans (B1.out.drew.alloc (.cells (cellsB zeroK).toArray 23)))
      have BW := below_setRow (bel_on bw BA) (g := W0.heap.size) (by omega) (cellsB h0).toArray
      have hz1 : W0.heap.size < ((W0.drew.alloc (.cells (cellsB zeroK).toArray 23)).setRow W0.heap.size (cellsB h0).toArray).heap.size := by simp [World.setRow]
      have HBH := Lib.hid hz0
      generalize (W0.drew.alloc (.cells (cellsB zeroK).toArray 23)).setRow W0.heap.size (cellsB h0).toArray = W1 at H1 L1 R1 BW hz1 ⊢
      clear hS hS2 hS3 N1 BA bw hz0 hbb
      go_wp2_with (first
        | (refine wpList_load_row rfl 23 (.tmp 4) rfl w.heap.size rfl 23 (cellsB leaf).toArray (0, 0) _ L1.out under_key rfl (cellsB_size _ HK.out) ?_)
        | (go_at_call 80; refine (HC.out _ BW).mono ?_; rintro e w2 ⟨⟨X2, x2, rs2, rfl, ho2⟩, hb2⟩; have H2 := Lib.hid ((H1.out.below' hb2).alloc (.cells (cellsB q).toArray 23)); have R2 := Lib.hid ((R1.out.below' hb2).alloc (.cells (cellsB q).toArray 23)); have Q2 := Lib.hid (Blk.new w2 23 (cellsB q).toArray); have T2 := Lib.hid (ho2.below (alloc_bel w2 (.cells (cellsB q).toArray 23))); have D2 := bel_on (bel_on BW hb2) (alloc_bel w2 (.cells (cellsB q).toArray 23)); have z2 : W1.heap.size ≤ w2.heap.size := hb2.size; generalize hq2 : rs2.length = k2; have HQ2 := Lib.hid hq2; clear ho2 hb2 hq2)
        | (refine wpList_load_row rfl 23 (.tmp 16) rfl w2.heap.size rfl 23 (cellsB q).toArray (0, 0) _ Q2.out under_key rfl (cellsB_size _ HQL.out) ?_)
        | (refine wpList_load_row rfl 23 (.tmp 13) rfl W0.heap.size rfl 23 (cellsB h0).toArray (0, 0) _ H2.out under_key rfl (cellsB_size _ HH.out) ?_)
        | (go_at_call 128; refine (HNT.out _).mono ?_; rintro e w3 ⟨⟨A3, c3, rfl, ho3⟩, hb3⟩; have R3 := Lib.hid (R2.out.below' hb3); have T3 := Lib.hid (T2.out.below hb3); have O3 := Lib.hid (ho3.le_ (B' := W1.heap.size) (by simp; omega)); have D3 := bel_on D2 hb3; have z3 : W1.heap.size ≤ w3.heap.size := Nat.le_trans z2 (Nat.le_trans (by simp) hb3.size); clear ho3 hb3)
        | (go_at_call 125; refine (HD.out _ _ _ (O3.out.br (by rw [HNL.out]; omega))).mono ?_; rintro e w4 ⟨rfl, hb4⟩; have R4 := Lib.hid ((R3.out.below' hb4).alloc (.cells #[.slice A3 33 c3] 24)); have T4 := Lib.hid ((T3.out.below hb4).below (alloc_bel w4 (.cells #[.slice A3 33 c3] 24))); have O4 := Lib.hid ((O3.out.below hb4).below (alloc_bel w4 (.cells #[.slice A3 33 c3] 24))); have D4 := bel_on (bel_on D3 hb4) (alloc_bel w4 (.cells #[.slice A3 33 c3] 24)); have z4 : W1.heap.size ≤ (w4.alloc (.cells #[.slice A3 33 c3] 24)).heap.size := Nat.le_trans z3 (Nat.le_trans hb4.size (by simp)); have S4 := Lib.hid (src_one w4 (.slice A3 33 c3) 24); clear hb4)
        | (at_builtin; refine wpList_append_row _ rfl (.tmp 74) (.tmp 76) rfl W1.heap.size X2 k2 x2 rs2 HQ2.out rfl T4.out.2.1 ⟨A3, c3, t⟩ (some ⟨w4.heap.size, 0, none⟩) 1 rfl (by rw [show BRow.v ⟨A3, c3, t⟩ = .slice A3 33 c3 from by unfold BRow.v; rw [HNL.out]]; exact S4.out) (by have := T4.out.len; rw [HQ2.out] at this; have := HQN.out; omega) z4 ?_; intro A5 c5 w5 ro5 hb5 hg5; rw [← HQ2.out] at hg5; have R5 := R4.out.grown T4.out.2.1 (by decide) hg5; have T5 := Lib.hid (T4.out.snoc O4.out ro5 hg5); have D5 := Lib.hid (D4.trans (hb5.mono BW.size)); have hr5 : (rowAt w5 (w.heap.size + 1)).size = 16 := (by rw [R5.row]; rfl); have hf5 := R5.free; have HR5 := Lib.hid R5; clear R5 ro5 hg5 hb5))
      refine bodyPost_ret (v := .tuple #[.agg (cellsB dg).toArray, .slice A5 (k2 + 1) c5]) ?_ rfl ⟨⟨A5, c5, rs2 ++ [⟨A3, c3, t⟩], by rw [List.length_append, HQ2.out]; rfl, TO.row (T5.out.le_ BW.size) HR5.out _⟩, below_setRow D5.out (by omega) _⟩
      rw [results_cell_tmp Try.results80]
      simp [asAddr, Result.andThen, run_loadVar_row _ (w.heap.size + 1) _ _ _ (0, 0) _ (HR5.out.setRow (cellsB dg).toArray) under_key rfl (cellsB_size _ HDL.out)]
    · have hki : ¬ (i : Int) < ((splitS n : Nat) : Int) := by omega
      have hki2 : ((splitS n : Nat) : Int) ≤ (i : Int) := by omega
      have hkn : ((splitS n : Nat) : Int) < (n : Int) := by omega
      obtain ⟨m, hm⟩ : ∃ m, path.length = m + 1 := ⟨path.length - 1, by rw [hp, stepsS_high h2 hk]; omega⟩
      rw [climbS_high _ _ h2 hk]
      have hql := climbS_length leaf (n - splitS n) (i - splitS n) (initK path)
      have hqn := climbS_le leaf (n - splitS n) (i - splitS n) (initK path) (by omega)
      have HC : Hid (∀ W, Below w.heap.size w W → Calls Try.prog 80 #[.agg (cellsB leaf).toArray, .int .i64 ((n : Int) - ((splitS n : Nat) : Int)), .int .i64 ((i : Int) - ((splitS n : Nat) : Int)), .slice A m c] W fun e w' => (∃ X x rs, e = .returned (.tuple #[.agg (cellsB (climbS leaf (n - splitS n) (i - splitS n) (initK path)).1).toArray, .slice X rs.length x]) ∧ TO W.heap.size w' X x rs (climbS leaf (n - splitS n) (i - splitS n) (initK path)).2) ∧ Below W.heap.size W w') := fun W hW => by
        have hlen : m = (initK path).length := by rw [initK_length, hm]; omega
        rw [hlen]
        rw [show (n : Int) - ((splitS n : Nat) : Int) = ((n - splitS n : Nat) : Int) from by omega, show (i : Int) - ((splitS n : Nat) : Int) = ((i - splitS n : Nat) : Int) from by omega]
        exact ih (n - splitS n) (by omega) (i - splitS n) (initK path) _ c W (by omega) (by omega) (by omega) (by rw [initK_length, hp, stepsS_high h2 hk]; omega) (h.below hW).init
      obtain ⟨b, off, rfl, hb, hr, hhl⟩ := h.lastAt hm
      have HR : Hid (∀ W, Below w.heap.size w W → W.rangeAt b (off + m * 16) (cellsB (lastK path))) := fun W hW => range_below hr hW
      have HH := Lib.hid hhl
      have hmi : (m : Int) ≤ 140737488351232 := by omega
      have hmc : m ≤ c := by omega
      have hmlt : (m : Int) < (m : Int) + 1 := by omega
      have hsl := fun W => slice_keys_to W (some ⟨b, off, none⟩) (m + 1) c m hmc
      have hwm : IntKind.i64.wrap ((m : Nat) : Int) = (m : Int) := by rw [IntKind.wrap_i64]; omega
      generalize climbS leaf (n - splitS n) (i - splitS n) (initK path) = r at HC hql hqn ⊢
      obtain ⟨q, x⟩ := r
      dsimp only at HC hql hqn ⊢
      generalize lastK path = h0 at HR HH ⊢
      rw [hm]
      generalize splitS n = k at *
      have HQL := Lib.hid hql
      have HQN : Hid (x.length ≤ 1000) := by unfold Hid; omega
      have HNT : Hid (∀ W, Calls Try.prog 128 #[.agg (cellsB h0).toArray, .agg (cellsB q).toArray] W fun e w' => (∃ A c, e = .returned (.slice A 33 c) ∧ OB W.heap.size w' A c (nodeT h0 q)) ∧ Below W.heap.size W w') := fun W => refNodeText_any h0 q W (by first | exact hql | exact HH.out) (by first | exact HH.out | exact hql)
      have HNL : Hid ((nodeT h0 q).length = 33) := by unfold Hid nodeT; simp [hql, HH.out]
      generalize nodeT h0 q = t at HNT HNL ⊢
      have HD : Hid (∀ X d W, BR W X d t → Calls Try.prog 125 #[.slice X 33 d] W fun e w' => e = .returned (.agg (cellsB (digS t)).toArray) ∧ Below W.heap.size W w') := fun X d W h => refDigest_any t X d W HNL.out h (by omega)
      have HDL : Hid ((digS t).length = 16) := digS_length _
      generalize digS t = dg at HDL HD ⊢
      have hdc : (cellsB dg).length = 16 := by rw [cellsB_length, HDL.out]
      have hall := all16 dg
      have hqc : (cellsB q).length = 16 := by rw [cellsB_length, hql]
      have hqa := all16 q
      have HBW : Hid (b < w.heap.size) := hb
      clear ih h hp hm hr hhl hb hl hql hqn
      go_enter Try.func80, Try.ntmps80
      go_wp2_with (go_at_call 127; rw [HZ.out]; refine (HSP.out _).mono ?_; rintro e w1 ⟨rfl, rfl⟩)
      obtain ⟨W0, hW0⟩ : ∃ W : World, W = (w.alloc (.cells (cellsB leaf).toArray 23)).alloc (.cells (cellsB zeroK).toArray 23) := ⟨_, rfl⟩
      have hz0 : W0.heap.size = w.heap.size + 1 + 1 := by rw [hW0]; simp
      rw [← hW0] at b0 B0 B1 ⊢
      clear hW0
      refine wp_region_noPanic ?_
      have bw : Below w.heap.size w W0.drew := b0.drew
      refine wp_region_held_drew (S := fun w' => w'.rangeAt b (off + m * 16) (cellsB h0)) (by kernel_rfl) (HR.out _ bw) (fun hS => ?_)
      refine hd_take 0 (_) rfl rfl (by kernel_rfl) (by kernel_rfl) (by kernel_rfl) (fun _ _ _ h => h) (fun w _ => by go_simp <;> rfl) hS ?_
      refine hd_take 1 (_) rfl rfl (by kernel_rfl) (by kernel_rfl) (by kernel_rfl) (fun _ _ _ h => h) (fun w _ => by go_simp <;> rfl) hS ?_
      refine hd_take 5 (_) rfl rfl (by kernel_rfl) (by kernel_rfl) (by kernel_rfl) (fun _ _ _ h => h) (fun w _ => by go_simp <;> rfl) hS ?_
      refine hd_take 6 (_) rfl rfl (by kernel_rfl) (by kernel_rfl) (by kernel_rfl) (fun _ _ _ h => h) (fun w _ => by go_simp <;> rfl) hS ?_
      simp only [List.getElem_toArray, List.getElem_cons_succ, List.getElem_cons_zero, Act.put, List.setIfInBounds_toArray, List.set_cons_zero, List.set_cons_succ]
      refine hd_take 2 (_) rfl rfl (by kernel_rfl) (by kernel_rfl) (by kernel_rfl) (fun _ _ _ h => h) (fun w _ => by go_simp <;> rfl) hS ?_
      refine hd_take 7 (_) rfl rfl (by kernel_rfl) (by kernel_rfl) (by kernel_rfl) (fun _ _ _ h => h) (fun w _ => by go_simp <;> rfl) hS ?_
      simp only [List.getElem_toArray, List.getElem_cons_succ, List.getElem_cons_zero, Act.put, List.setIfInBounds_toArray, List.set_cons_zero, List.set_cons_succ]
      refine hd_take 3 (_) rfl rfl (by kernel_rfl) (by kernel_rfl) (by kernel_rfl) (fun _ _ _ h => h) (fun w _ => by go_simp <;> rfl) hS ?_
      refine hd_take 8 (_) rfl rfl (by kernel_rfl) (by kernel_rfl) (by kernel_rfl) (fun _ _ _ h => h) (fun w _ => by go_simp <;> rfl) hS ?_
      simp only [List.getElem_toArray, List.getElem_cons_succ, List.getElem_cons_zero, Act.put, List.setIfInBounds_toArray, List.set_cons_zero, List.set_cons_succ]
      refine hd_take 4 (_) rfl rfl (by kernel_rfl) (by kernel_rfl) (by kernel_rfl) (fun _ _ _ h => h) (fun w _ => by go_simp <;> rfl) hS ?_
      refine hd_take 9 (_) rfl rfl (by kernel_rfl) (by kernel_rfl) (by kernel_rfl) (fun _ _ _ h => h) (fun w _ => by go_simp <;> rfl) hS ?_
      simp only [List.getElem_toArray, List.getElem_cons_succ, List.getElem_cons_zero, Act.put, List.setIfInBounds_toArray, List.set_cons_zero, List.set_cons_succ]
      refine hd_load 10 b (off + m * 16) (cellsB h0) _ _ rfl rfl rfl (by kernel_rfl) (by kernel_rfl) (by kernel_rfl) (fun _ _ _ h => h) rfl (fun w hw => hw) under_key rfl (key_info HH.out) hS ?_
      simp only [List.getElem_toArray, List.getElem_cons_succ, List.getElem_cons_zero, Act.put, List.setIfInBounds_toArray, List.set_cons_zero, List.set_cons_succ]
      have BA := alloc_bel W0.drew (.cells (cellsB zeroK).toArray 23)
      refine hd_sole 11 (by kernel_rfl) (op_run (.pointer (some ⟨W0.heap.size, 0, none⟩)) (W0.drew.alloc (.cells (cellsB zeroK).toArray 23)) rfl rfl (by rw [← HZ.out]; go_simp) ⟨HR.out _ (bel_on bw BA), ?_⟩)
      simp only [List.getElem_toArray, List.getElem_cons_succ, List.getElem_cons_zero, Act.put, List.setIfInBounds_toArray, List.set_cons_zero, List.set_cons_succ]
      have hS2 : (W0.drew.alloc (.cells (cellsB zeroK).toArray 23)).rangeAt b (off + m * 16) (cellsB h0) := HR.out _ (bel_on bw BA)
      refine hd_take 12 (.slice (some ⟨b, off, none⟩) m c) rfl rfl (by kernel_rfl) (by kernel_rfl) (by kernel_rfl) (fun _ _ _ h => h) (fun w _ => by go_simp) hS2 ?_
      simp only [List.getElem_toArray, List.getElem_cons_succ, List.getElem_cons_zero, Act.put, List.setIfInBounds_toArray, List.set_cons_zero, List.set_cons_succ]
      have N1 : Blk (W0.drew.alloc (.cells (cellsB zeroK).toArray 23)) W0.heap.size 23 (cellsB zeroK).toArray := Blk.new W0.drew _ _
      have hbb : W0.heap.size ≠ b := by have := HBW.out; omega
      have hS3 := range_setRow hS2 (g' := W0.heap.size) (by omega) (cellsB h0).toArray
      refine hd_store 13 W0.heap.size (cellsB h0).toArray _ _ _ rfl rfl rfl (by kernel_rfl) rfl rfl N1 (cellsB_size _ HH.out) (by rw [List.size_toArray, List.size_toArray, cellsB_length, cellsB_length, HH.out]; rfl) (all_oneCell_toArray (cells_one h0)) hS3 ?_
      refine wpAnyH_done (by kernel_rfl) (NoPanic.normal ?_) _
      have H1 := Lib.hid (N1.setRow (cellsB h0).toArray)
      have L1 := Lib.hid (show Blk ((W0.drew.alloc (.cells (cellsB zeroK).toArray 23)).setRow W0.heap.size (cellsB h0).toArray) w.heap.size _ _ from (setRow_other _ W0.heap.size w.heap.size (cellsB h0).toArray (by omega)).trans (B0.out.drew.alloc (.cells (cellsB zeroK).toArray 23)))
      have R1 := Lib.hid (show Blk ((W0.drew.alloc (.cells (cellsB zeroK).toArray 23)).setRow W0.heap.size (cellsB h0).toArray) (w.heap.size + 1) _ _ from (setRow_other _ W0.heap.size (w.heap.size + 1) (cellsB h0).toArray (by omega)).trans (B1.out.drew.alloc (.cells (cellsB zeroK).toArray 23)))
      have BW := below_setRow (bel_on bw BA) (g := W0.heap.size) (by omega) (cellsB h0).toArray
      have hz1 : W0.heap.size < ((W0.drew.alloc (.cells (cellsB zeroK).toArray 23)).setRow W0.heap.size (cellsB h0).toArray).heap.size := by simp [World.setRow]
      have HBH := Lib.hid hz0
      generalize (W0.drew.alloc (.cells (cellsB zeroK).toArray 23)).setRow W0.heap.size (cellsB h0).toArray = W1 at H1 L1 R1 BW hz1 ⊢
      clear hS hS2 hS3 N1 BA bw hz0 hbb
      go_wp2_with (first
        | (refine wpList_load_row rfl 23 (.tmp 4) rfl w.heap.size rfl 23 (cellsB leaf).toArray (0, 0) _ L1.out under_key rfl (cellsB_size _ HK.out) ?_)
        | (go_at_call 80; refine (HC.out _ BW).mono ?_; rintro e w2 ⟨⟨X2, x2, rs2, rfl, ho2⟩, hb2⟩; have H2 := Lib.hid ((H1.out.below' hb2).alloc (.cells (cellsB q).toArray 23)); have R2 := Lib.hid ((R1.out.below' hb2).alloc (.cells (cellsB q).toArray 23)); have Q2 := Lib.hid (Blk.new w2 23 (cellsB q).toArray); have T2 := Lib.hid (ho2.below (alloc_bel w2 (.cells (cellsB q).toArray 23))); have D2 := bel_on (bel_on BW hb2) (alloc_bel w2 (.cells (cellsB q).toArray 23)); have z2 : W1.heap.size ≤ w2.heap.size := hb2.size; generalize hq2 : rs2.length = k2; have HQ2 := Lib.hid hq2; clear ho2 hb2 hq2)
        | (refine wpList_load_row rfl 23 (.tmp 18) rfl w2.heap.size rfl 23 (cellsB q).toArray (0, 0) _ Q2.out under_key rfl (cellsB_size _ HQL.out) ?_)
        | (refine wpList_load_row rfl 23 (.tmp 13) rfl W0.heap.size rfl 23 (cellsB h0).toArray (0, 0) _ H2.out under_key rfl (cellsB_size _ HH.out) ?_)
        | (go_at_call 128; refine (HNT.out _).mono ?_; rintro e w3 ⟨⟨A3, c3, rfl, ho3⟩, hb3⟩; have R3 := Lib.hid (R2.out.below' hb3); have T3 := Lib.hid (T2.out.below hb3); have O3 := Lib.hid (ho3.le_ (B' := W1.heap.size) (by simp; omega)); have D3 := bel_on D2 hb3; have z3 : W1.heap.size ≤ w3.heap.size := Nat.le_trans z2 (Nat.le_trans (by simp) hb3.size); clear ho3 hb3)
        | (go_at_call 125; refine (HD.out _ _ _ (O3.out.br (by rw [HNL.out]; omega))).mono ?_; rintro e w4 ⟨rfl, hb4⟩; have R4 := Lib.hid ((R3.out.below' hb4).alloc (.cells #[.slice A3 33 c3] 24)); have T4 := Lib.hid ((T3.out.below hb4).below (alloc_bel w4 (.cells #[.slice A3 33 c3] 24))); have O4 := Lib.hid ((O3.out.below hb4).below (alloc_bel w4 (.cells #[.slice A3 33 c3] 24))); have D4 := bel_on (bel_on D3 hb4) (alloc_bel w4 (.cells #[.slice A3 33 c3] 24)); have z4 : W1.heap.size ≤ (w4.alloc (.cells #[.slice A3 33 c3] 24)).heap.size := Nat.le_trans z3 (Nat.le_trans hb4.size (by simp)); have S4 := Lib.hid (src_one w4 (.slice A3 33 c3) 24); clear hb4)
        | (at_builtin; refine wpList_append_row _ rfl (.tmp 74) (.tmp 76) rfl W1.heap.size X2 k2 x2 rs2 HQ2.out rfl T4.out.2.1 ⟨A3, c3, t⟩ (some ⟨w4.heap.size, 0, none⟩) 1 rfl (by rw [show BRow.v ⟨A3, c3, t⟩ = .slice A3 33 c3 from by unfold BRow.v; rw [HNL.out]]; exact S4.out) (by have := T4.out.len; rw [HQ2.out] at this; have := HQN.out; omega) z4 ?_; intro A5 c5 w5 ro5 hb5 hg5; rw [← HQ2.out] at hg5; have R5 := R4.out.grown T4.out.2.1 (by decide) hg5; have T5 := Lib.hid (T4.out.snoc O4.out ro5 hg5); have D5 := Lib.hid (D4.trans (hb5.mono BW.size)); have hr5 : (rowAt w5 (w.heap.size + 1)).size = 16 := (by rw [R5.row]; rfl); have hf5 := R5.free; have HR5 := Lib.hid R5; clear R5 ro5 hg5 hb5))
      refine bodyPost_ret (v := .tuple #[.agg (cellsB dg).toArray, .slice A5 (k2 + 1) c5]) ?_ rfl ⟨⟨A5, c5, rs2 ++ [⟨A3, c3, t⟩], by rw [List.length_append, HQ2.out]; rfl, TO.row (T5.out.le_ BW.size) HR5.out _⟩, below_setRow D5.out (by omega) _⟩
      rw [results_cell_tmp Try.results80]
      simp [asAddr, Result.andThen, run_loadVar_row _ (w.heap.size + 1) _ _ _ (0, 0) _ (HR5.out.setRow (cellsB dg).toArray) under_key rfl (cellsB_size _ HDL.out)]
end Go.Proofs.Ytinpiodfpnbllaa

/- What a proof gives: the reference's Verify and PathTexts. -/
namespace Go.Proofs.Ytinpiodfpnbllaa
open Go.RowKit
set_option linter.unusedVariables false
set_option linter.unusedSimpArgs false
attribute [local go_sem] run_storeCells_key run_storeCells_new equalIn_keys

theorem lastK_short {p : List (List UInt8)} (h : ∀ k ∈ p, k.length = 16) : (lastK p).length ≤ 16 := by
  rcases Nat.eq_zero_or_pos p.length with h0 | h0
  · rw [List.eq_nil_of_length_eq_zero h0]; simp [lastK]
  · rw [h _ (lastK_mem h0)]; omega
theorem climbS_short (leaf : List UInt8) (hl : leaf.length = 16) : ∀ (n i : Nat) (path : List (List UInt8)), (∀ k ∈ path, k.length = 16) → ∀ t ∈ (climbS leaf n i path).2, t.length ≤ 1000 := by
  intro n
  induction n using Nat.strongRecOn with
  | _ n ih =>
    intro i path hp t ht
    have hlast := lastK_short hp
    have hin : ∀ k ∈ initK path, k.length = 16 := fun k hk => hp k (initK_mem hk)
    rcases Nat.lt_or_ge n 2 with h2 | h2
    · rw [climbS_one _ (by omega), List.mem_singleton] at ht
      subst ht
      simp [leafT, hl]
    have s1 := splitS_lt h2
    have s2 := splitS_pos n
    by_cases hi : i < splitS n
    · rw [climbS_low _ _ h2 hi] at ht
      rcases List.mem_append.1 ht with ht | ht
      · exact ih (splitS n) s1 i _ hin t ht
      · rw [List.mem_singleton.1 ht]
        have := climbS_length leaf (splitS n) i (initK path)
        simp only [nodeT, List.length_cons, List.length_append]; omega
    · rw [climbS_high _ _ h2 hi] at ht
      rcases List.mem_append.1 ht with ht | ht
      · exact ih (n - splitS n) (by omega) _ _ hin t ht
      · rw [List.mem_singleton.1 ht]
        have := climbS_length leaf (n - splitS n) (i - splitS n) (initK path)
        simp only [nodeT, List.length_cons, List.length_append]; omega

set_option maxHeartbeats 2000000 in
set_option maxRecDepth 100000 in
theorem refGives_any (leaf : List UInt8) (n i : Nat) (P : List (List UInt8)) (A : Option Addr) (c : Nat) (w : World) {m : Nat} (hm : P.length = m) (hl : leaf.length = 16) (h1 : 1 ≤ n) (h2 : n ≤ 128) (hi : i < n) (hp : P.length = stepsS n i) (h : KR w A c P) :
    Calls Try.prog 78 #[.agg (cellsB leaf).toArray, .agg #[.int .i64 (n : Int), .int .i64 (i : Int), .slice A m c]] w fun e w' => e = .returned (.agg (cellsB (climbS leaf n i P).1).toArray) ∧ Below w.heap.size w w' := by
  have HZ := Lib.hid zero16
  have HK := Lib.hid hl
  have b0 := alloc3_bel w (.cells (cellsB leaf).toArray 23) (.cells #[.int .i64 (n : Int), .int .i64 (i : Int), .slice A m c] 52) (.cells (cellsB zeroK).toArray 23)
  have L0 := Lib.hid (blk_a0 w (cellsB leaf).toArray 23 (.cells #[.int .i64 (n : Int), .int .i64 (i : Int), .slice A m c] 52) (.cells (cellsB zeroK).toArray 23))
  have R0 := Lib.hid (blk_a2 w (.cells (cellsB leaf).toArray 23) (.cells #[.int .i64 (n : Int), .int .i64 (i : Int), .slice A m c] 52) (cellsB zeroK).toArray 23)
  have HG : Hid (∀ W, Below w.heap.size w W → Calls Try.prog 80 #[.agg (cellsB leaf).toArray, .int .i64 (n : Int), .int .i64 (i : Int), .slice A m c] W fun e w' => (∃ X x rs, e = .returned (.tuple #[.agg (cellsB (climbS leaf n i P).1).toArray, .slice X rs.length x]) ∧ TO W.heap.size w' X x rs (climbS leaf n i P).2) ∧ Below W.heap.size W w') := fun W hW => by
    have := refGiven_any leaf hl n i P A c W h1 (by omega) hi hp (h.below hW)
    rwa [hm] at this
  have hrl := climbS_length leaf n i P
  generalize climbS leaf n i P = r at HG hrl ⊢
  obtain ⟨q, x⟩ := r
  dsimp only at HG hrl ⊢
  have HRL := Lib.hid hrl
  have hdc : (cellsB q).length = 16 := by rw [cellsB_length, hrl]
  have hall := all16 q
  clear hm hl h1 h2 hi hp h hrl
  go_enter Try.func78, Try.ntmps78
  go_wp2_with (first
    | (refine wpList_load_row rfl 23 (.tmp 2) rfl w.heap.size rfl 23 (cellsB leaf).toArray (0, 0) _ (by rw [HZ.out]; exact L0.out) under_key rfl (cellsB_size _ HK.out) ?_)
    | (go_at_call 80; rw [HZ.out]; refine (HG.out _ b0).mono ?_; rintro e w1 ⟨⟨A1, c1, rs, rfl, _⟩, hb1⟩; have D1 := bel_on (bel_on b0 hb1) (alloc_bel w1 (.cells (cellsB q).toArray 23)); have Q1 := Lib.hid (Blk.new w1 23 (cellsB q).toArray); have R1 := (R0.out.below' hb1).alloc (.cells (cellsB q).toArray 23); have hr1 : (rowAt (w1.alloc (.cells (cellsB q).toArray 23)) (w.heap.size + 1 + 1)).size = 16 := (by rw [R1.row]; rfl); have hf1 := R1.free; have HR1 := Lib.hid R1; clear R1 hb1)
    | (refine wpList_load_row rfl 23 (.tmp 5) rfl w1.heap.size rfl 23 (cellsB q).toArray (0, 0) _ Q1.out under_key rfl (cellsB_size _ HRL.out) ?_))
  exact bodyPost_ret (results_cell_row rfl _ _ (w.heap.size + 1 + 1) _ _ (0, 0) _ rfl (HR1.out.setRow (cellsB q).toArray) under_key rfl (cellsB_size _ HRL.out)) rfl ⟨rfl, below_setRow D1 (by omega) _⟩

theorem proof_info (a b : Int) (A : Option Addr) (m c : Nat) : (Try.prog.info? 52).map (·.size) = some ([Value.int .i64 a, .int .i64 b, .slice A m c]).length := by
  rw [show (Try.prog.info? 52).map (·.size) = some 3 from by kernel_rfl]; rfl

set_option maxHeartbeats 2000000 in
set_option maxRecDepth 100000 in
theorem refVerify_any (root leaf : List UInt8) (a b : Int) (P : List (List UInt8)) (A : Option Addr) (c : Nat) (w : World) {m : Nat} (hm : P.length = m) (hr : root.length = 16) (hl : leaf.length = 16) (h : KR w A c P) :
    Calls Try.prog 27 #[.agg (cellsB root).toArray, .agg (cellsB leaf).toArray, .agg #[.int .i64 a, .int .i64 b, .slice A m c]] w fun e w' => e = .returned (.tuple #[.bool (verS root leaf a b P).1, .int .i64 (verS root leaf a b P).2]) ∧ Below w.heap.size w w' := by
  have HK := Lib.hid hl
  have HR := Lib.hid hr
  have b0 := alloc3_bel w (.cells (cellsB root).toArray 23) (.cells (cellsB leaf).toArray 23) (.cells #[.int .i64 a, .int .i64 b, .slice A m c] 52)
  have R0 := Lib.hid (blk_a0 w (cellsB root).toArray 23 (.cells (cellsB leaf).toArray 23) (.cells #[.int .i64 a, .int .i64 b, .slice A m c] 52))
  have L0 := Lib.hid (blk_a1 w (.cells (cellsB root).toArray 23) (cellsB leaf).toArray 23 (.cells #[.int .i64 a, .int .i64 b, .slice A m c] 52))
  have P0 := Lib.hid (blk_a2 w (.cells (cellsB root).toArray 23) (.cells (cellsB leaf).toArray 23) [.int .i64 a, .int .i64 b, .slice A m c].toArray 52)
  have hml := h.len
  have HF : Hid (∀ W, Calls Try.prog 77 #[.agg #[.int .i64 a, .int .i64 b, .slice A m c]] W fun e w' => e = .returned (.bool (fitsB a b m)) ∧ Below W.heap.size W w') := fun W => refFits_any a b A m c W (by omega)
  cases hf : fitsB a b m with
  | false =>
    have HS : Hid (verS root leaf a b P = (false, 8)) := by unfold Hid verS; rw [hm, hf]; rfl
    rw [hf] at HF
    clear hf hm hr hl h hml
    go_enter Try.func27, Try.ntmps27
    go_wp2_with (go_at_call 77; refine (HF.out _).mono ?_; rintro e w1 ⟨rfl, hb1⟩; have B1 := Lib.hid (bel_on b0 hb1); clear hb1)
    go_ret2
    rw [HS.out]
    exact ⟨rfl, B1.out⟩
  | true =>
    have HS : Hid (verS root leaf a b P = ((climbS leaf a.toNat b.toNat P).1 == root, 0)) := by unfold Hid verS; rw [hm, hf]; rfl
    rw [hf] at HF
    obtain ⟨⟨g1, g2, g3, g4⟩, g5⟩ := fitsB_iff.1 hf
    have HG : Hid (∀ W, Below w.heap.size w W → Calls Try.prog 78 #[.agg (cellsB leaf).toArray, .agg #[.int .i64 a, .int .i64 b, .slice A m c]] W fun e w' => e = .returned (.agg (cellsB (climbS leaf a.toNat b.toNat P).1).toArray) ∧ Below W.heap.size W w') := fun W hW => by
      have := refGives_any leaf a.toNat b.toNat P A c W hm hl (by omega) (by omega) (by omega) (by rw [hm]; exact g5) (h.below hW)
      rwa [Int.toNat_of_nonneg (by omega), Int.toNat_of_nonneg (by omega)] at this
    have hrl := climbS_length leaf a.toNat b.toNat P
    generalize (climbS leaf a.toNat b.toNat P).1 = q at HS HG hrl
    have HRL := Lib.hid hrl
    clear hf hm hr hl h hml g1 g2 g3 g4 g5 hrl
    go_enter Try.func27, Try.ntmps27
    go_wp2_with (go_at_call 77; refine (HF.out _).mono ?_; rintro e w1 ⟨rfl, hb1⟩; have B1 := bel_on b0 hb1; have R1 := Lib.hid (R0.out.below' hb1); have L1 := Lib.hid (L0.out.below' hb1); have P1 := Lib.hid (P0.out.below' hb1); clear hb1)
    refine wp_region_noPanic ?_
    refine wp_region_held_drew (S := fun w' => w'.rangeAt w.heap.size 0 (cellsB root) ∧ w'.rangeAt (w.heap.size + 1) 0 (cellsB leaf) ∧ w'.rangeAt (w.heap.size + 1 + 1) 0 [.int .i64 a, .int .i64 b, .slice A m c]) (by kernel_rfl) ⟨R1.out.drew.range, L1.out.drew.range, P1.out.drew.range⟩ (fun hS => ?_)
    refine hd_load 0 (w.heap.size + 1) 0 (cellsB leaf) _ _ rfl rfl rfl (by kernel_rfl) (by kernel_rfl) (by kernel_rfl) (fun _ _ _ h => h) rfl (fun w hw => hw.2.1) under_key rfl (key_info HK.out) hS ?_
    refine hd_load 1 (w.heap.size + 1 + 1) 0 [.int .i64 a, .int .i64 b, .slice A m c] _ _ rfl rfl rfl (by kernel_rfl) (by kernel_rfl) (by kernel_rfl) (fun _ _ _ h => h) rfl (fun w hw => hw.2.2) Try.underlying52 rfl (proof_info a b A m c) hS ?_
    refine hd_load 3 w.heap.size 0 (cellsB root) _ _ rfl rfl rfl (by kernel_rfl) (by kernel_rfl) (by kernel_rfl) (fun _ _ _ h => h) rfl (fun w hw => hw.1) under_key rfl (key_info HR.out) hS ?_
    simp only [List.getElem_toArray, List.getElem_cons_succ, List.getElem_cons_zero, Act.put, List.setIfInBounds_toArray, List.set_cons_zero, List.set_cons_succ]
    refine hd_calls 2 78 #[.agg (cellsB leaf).toArray, .agg #[.int .i64 a, .int .i64 b, .slice A m c]] rfl rfl (by kernel_rfl) (by go_simp) ((HG.out _ B1.drew).mono ?_)
    rintro e w2 ⟨rfl, hb2⟩
    have B2 := Lib.hid (bel_on B1.drew hb2)
    have hS2 := And.intro (range_below hS.1 hb2) (And.intro (range_below hS.2.1 hb2) (range_below hS.2.2 hb2))
    refine ⟨_, rfl, hS2, ?_⟩
    simp only [List.getElem_toArray, List.getElem_cons_succ, List.getElem_cons_zero, Act.put, List.setIfInBounds_toArray, List.set_cons_zero, List.set_cons_succ]
    refine hd_take 4 (.bool (q == root)) rfl rfl (by kernel_rfl) (by kernel_rfl) (by kernel_rfl) (fun _ _ _ h => h) (fun w _ => by have hx := equalIn_keys w q root HRL HR; simp [go_sem, hx]) hS2 ?_
    simp only [List.getElem_toArray, List.getElem_cons_succ, List.getElem_cons_zero, Act.put, List.setIfInBounds_toArray, List.set_cons_zero, List.set_cons_succ]
    refine hd_take 5 (.bool (q == root)) rfl rfl (by kernel_rfl) (by kernel_rfl) (by kernel_rfl) (fun _ _ _ h => h) (fun w _ => by go_simp) hS2 ?_
    refine hd_take 6 (.int .i64 0) rfl rfl (by kernel_rfl) (by kernel_rfl) (by kernel_rfl) (fun _ _ _ h => h) (fun w _ => by go_simp) hS2 ?_
    simp only [List.getElem_toArray, List.getElem_cons_succ, List.getElem_cons_zero, Act.put, List.setIfInBounds_toArray, List.set_cons_zero, List.set_cons_succ]
    refine wpAnyH_done (by kernel_rfl) (NoPanic.normal ?_) _
    clear hS hS2
    generalize (q == root) = v at HS ⊢
    go_wp2_with fail
    go_ret2
    rw [HS.out]
    exact ⟨rfl, B2.out⟩

set_option maxHeartbeats 2000000 in
set_option maxRecDepth 100000 in
theorem refPathTexts_any (leaf : List UInt8) (a b : Int) (P : List (List UInt8)) (A : Option Addr) (c : Nat) (w : World) {m : Nat} (hm : P.length = m) (hl : leaf.length = 16) (h : KR w A c P) :
    Calls Try.prog 29 #[.agg (cellsB leaf).toArray, .agg #[.int .i64 a, .int .i64 b, .slice A m c]] w fun e w' => TxEnd (ptS leaf a b P).1 (ptS leaf a b P).2 e w' ∧ Below w.heap.size w w' := by
  have HK := Lib.hid hl
  have b0 := alloc2_bel w (.cells (cellsB leaf).toArray 23) (.cells #[.int .i64 a, .int .i64 b, .slice A m c] 52)
  have L0 := Lib.hid (blk_b0 w (cellsB leaf).toArray 23 (.cells #[.int .i64 a, .int .i64 b, .slice A m c] 52))
  have P0 := Lib.hid (blk_b1 w (.cells (cellsB leaf).toArray 23) #[.int .i64 a, .int .i64 b, .slice A m c] 52)
  have hml := h.len
  have HF : Hid (∀ W, Calls Try.prog 77 #[.agg #[.int .i64 a, .int .i64 b, .slice A m c]] W fun e w' => e = .returned (.bool (fitsB a b m)) ∧ Below W.heap.size W w') := fun W => refFits_any a b A m c W (by omega)
  cases hf : fitsB a b m with
  | false =>
    have HS : Hid (ptS leaf a b P = ([], 8)) := by unfold Hid ptS; rw [hm, hf]; rfl
    rw [hf] at HF
    clear hf hm hl h hml
    go_enter Try.func29, Try.ntmps29
    go_wp2_with (go_at_call 77; refine (HF.out _).mono ?_; rintro e w1 ⟨rfl, hb1⟩; have B1 := Lib.hid (bel_on b0 hb1); clear hb1)
    go_ret2
    rw [HS.out]
    exact ⟨⟨none, 0, [], rfl, rfl, RR.nil _⟩, B1.out⟩
  | true =>
    have HS : Hid (ptS leaf a b P = ((climbS leaf a.toNat b.toNat P).2, 0)) := by unfold Hid ptS; rw [hm, hf]; rfl
    rw [hf] at HF
    obtain ⟨⟨g1, g2, g3, g4⟩, g5⟩ := fitsB_iff.1 hf
    have HG : Hid (∀ W, Below w.heap.size w W → Calls Try.prog 80 #[.agg (cellsB leaf).toArray, .int .i64 a, .int .i64 b, .slice A m c] W fun e w' => (∃ X x rs, e = .returned (.tuple #[.agg (cellsB (climbS leaf a.toNat b.toNat P).1).toArray, .slice X rs.length x]) ∧ TO W.heap.size w' X x rs (climbS leaf a.toNat b.toNat P).2) ∧ Below W.heap.size W w') := fun W hW => by
      have := refGiven_any leaf hl a.toNat b.toNat P A c W (by omega) (by omega) (by omega) (by rw [hm]; exact g5) (h.below hW)
      rwa [hm, Int.toNat_of_nonneg (by omega), Int.toNat_of_nonneg (by omega)] at this
    have hrl := climbS_length leaf a.toNat b.toNat P
    have hrn := climbS_le leaf a.toNat b.toNat P (by omega)
    have HSH := Lib.hid (climbS_short leaf hl a.toNat b.toNat P h.2)
    generalize climbS leaf a.toNat b.toNat P = r at HS HG hrl hrn HSH
    obtain ⟨q, x⟩ := r
    dsimp only at HS HG hrl hrn HSH
    have HLE : Hid (x.length ≤ 100000) := by unfold Hid; omega
    have hdc : (cellsB q).length = 16 := by rw [cellsB_length, hrl]
    have hall := all16 q
    clear hf hm hl h hml g1 g2 g3 g4 g5 hrl hrn
    go_enter Try.func29, Try.ntmps29
    go_wp2_with (first
      | (go_at_call 77; refine (HF.out _).mono ?_; rintro e w1 ⟨rfl, hb1⟩; have B1 := bel_on b0 hb1; have L1 := Lib.hid (L0.out.below' hb1); have P1 := P0.out.below' hb1; have p0 : w1.cell? ⟨w.heap.size + 1, 0, none⟩ = some (.int .i64 a) := P1.cell 0; have p1 : w1.cell? ⟨w.heap.size + 1, 1, none⟩ = some (.int .i64 b) := P1.cell 1; have p2 : w1.cell? ⟨w.heap.size + 1, 2, none⟩ = some (.slice A m c) := P1.cell 2; clear P1 hb1)
      | (refine wpList_load_row rfl 23 (.tmp 2) rfl w.heap.size rfl 23 (cellsB leaf).toArray (0, 0) _ L1.out under_key rfl (cellsB_size _ HK.out) ?_)
      | (go_at_call 80; refine (HG.out _ B1).mono ?_; rintro e w2 ⟨⟨A2, c2, rs, rfl, hto⟩, hb2⟩; have B2 := Lib.hid (bel_on B1 hb2); have HTO := Lib.hid hto; generalize hq : rs.length = k; have HQ := Lib.hid hq; clear hb2 hto hq))
    go_ret2
    rw [HS.out]
    exact ⟨⟨A2, c2, rs, by rw [HQ.out]; rfl, HTO.out.1, (HTO.out.rr HLE.out HSH.out).on (alloc_bel _ _)⟩, bel_on B2.out (alloc_bel _ _)⟩
end Go.Proofs.Ytinpiodfpnbllaa

/- The leaf of an entry: the reference's. -/
namespace Go.Proofs.Ytinpiodfpnbllaa
open Go.RowKit
set_option linter.unusedVariables false
set_option linter.unusedSimpArgs false

section
variable {md : Region.Mode} {ops : Array Oper} {Q : Exit → Act → World → Prop} {S : World → Prop} {fuel : Nat} {listed : Array Bool} {a : Act} {w : World}
/-- append to bytes that the call owns, the only operation that may come up. -/
theorem hd_appendB (i : Nat) {oi : Oper} (s x : Operand) (hi : ops[i]? = some oi) (ho : oi.op = .call { callee := .builtin .append, args := #[s, x], argTypes := #[24, 24] }) (hg : oi.guard = none) (hr : Region.ready md ops listed = [i])
    (B : Nat) (A : Option Addr) (n c : Nat) (l : List UInt8) (hn : l.length = n) (hs : a.eval s = .slice A n c) (hown : OB B w A c l)
    (X : Option Addr) (m d : Nat) (news : List UInt8) (hm : news.length = m) (hx : a.eval x = .slice X m d) (hsrc : Src w 1 X m (cellsB news)) (hlen : n + m ≤ 140737488351232) (hB : B ≤ w.heap.size)
    (h : ∀ A' c' w', OB B w' A' c' (l ++ news) → Below B w w' → S w' ∧ wpAnyH Try.prog md ops Q S fuel (listed.setIfInBounds i true) (a.put oi.dst (.slice A' (n + m) c')) w') : wpAnyH Try.prog md ops Q S (fuel + 1) listed a w := by
  obtain ⟨i0, hi0, hz0, hz1, hz2⟩ := info_parts u8_info'
  subst hn hm
  obtain ⟨A', c', w', hrun, h2, h3, h4⟩ := run_append_src (P := Try.prog) w B 24 oi.type 5 i0 (.int .u8 0) 1 1 Try.underlying24 hi0 hz0 hz1 hz2 rfl (by omega) A l.length c (cellsB l) hown X news.length d (cellsB news) hsrc (cellsB_one _) (by simp only [maxLen]; omega) (by omega) hB
  refine hd_one i hi hg hr ?_
  refine Lib.wp_append_run w s x 24 24 ho _ _ hs hx _ w' hrun ?_
  refine h A' c' w' ?_ (grown_below (Below.refl _ _) hown h3 hB (Nat.le_refl _))
  unfold OB
  rw [cellsB_append, List.length_append]
  exact h2
end

theorem by8_nat (m : Nat) (hm : m < 18446744073709551616) : by8 (UInt64.ofNat m) = be8 m := by
  have hn : (UInt64.ofNat m).toNat = m := by rw [UInt64.toNat_ofNat']; omega
  have hb : ∀ k, k < 64 → (UInt64.ofNat m >>> UInt64.ofNat k).toUInt8 = UInt8.ofNat (m / 2 ^ k) := fun k hk => by
    apply UInt8.toNat_inj.1
    rw [UInt64.toNat_toUInt8, toNat_shr _ _ hk, hn, UInt8.toNat_ofNat']
  have e0 : (UInt64.ofNat m).toUInt8 = UInt8.ofNat m := by
    apply UInt8.toNat_inj.1
    rw [UInt64.toNat_toUInt8, hn, UInt8.toNat_ofNat']
  have h8 := hb 8 (by omega)
  have h16 := hb 16 (by omega)
  have h24 := hb 24 (by omega)
  have h32 := hb 32 (by omega)
  have h40 := hb 40 (by omega)
  have h48 := hb 48 (by omega)
  have h56 := hb 56 (by omega)
  unfold by8 be8
  rw [← h8.trans rfl, ← h16.trans rfl, ← h24.trans rfl, ← h32.trans rfl, ← h40.trans rfl, ← h48.trans rfl, ← h56.trans rfl, ← e0]
  rfl
theorem be8_low {p : Nat} (h : p ≤ 65) : be8 p = [0, 0, 0, 0, 0, 0, 0, UInt8.ofNat p] := by
  unfold be8
  rw [show p / 72057594037927936 = 0 from by omega, show p / 281474976710656 = 0 from by omega, show p / 1099511627776 = 0 from by omega, show p / 4294967296 = 0 from by omega, show p / 16777216 = 0 from by omega, show p / 65536 = 0 from by omega, show p / 256 = 0 from by omega]
  rfl

set_option maxHeartbeats 4000000 in
set_option maxRecDepth 100000 in
theorem refLeaf_any (r u : Int) (w : World) (hx : isE (r, u) = true) :
    Calls Try.prog 93 #[.agg #[.int .i64 r, .int .i64 u]] w fun e w' => e = .returned (.agg (cellsB (leafE (r, u))).toArray) ∧ Below w.heap.size w w' := by
  obtain ⟨h0, h1, h2, h3⟩ := isE_iff.1 hx
  simp only at h0 h1 h2 h3
  obtain ⟨m, rfl⟩ := Int.eq_ofNat_of_zero_le h2
  obtain ⟨p, hp⟩ := Int.eq_ofNat_of_zero_le (show 0 ≤ r + 1 by omega)
  have hp65 : p ≤ 65 := by omega
  have HL : Hid (leafE (r, (m : Int)) = by8 (UInt64.ofNat p) ++ by8 (UInt64.ofNat m)) := by
    unfold Hid leafE
    rw [by8_nat p (by omega), by8_nat m (by omega), be8_low hp65, hp]
    rfl
  have hb1 : IntKind.i64.wrap (r + 1) = (p : Int) := by rw [IntKind.wrap_i64]; omega
  have hb2 : IntKind.u64.wrap (p : Int) = (p : Int) := by rw [IntKind.wrap_u64]; omega
  have hb3 : IntKind.u64.wrap (m : Int) = (m : Int) := by rw [IntKind.wrap_u64]; omega
  have HB : ∀ n : Nat, n < 18446744073709551616 → Hid (∀ W, Calls Try.prog 138 #[.int .u64 (n : Int), .int .i64 8] W fun e w' => ∃ A c, e = .returned (.slice A 8 c) ∧ OB W.heap.size w' A c (by8 (UInt64.ofNat n)) ∧ Below W.heap.size W w') := fun n hn W => by
    have h := refBytes_any (UInt64.ofNat n) 8 W (by omega)
    rw [UInt64.toNat_ofNat', Nat.mod_eq_of_lt (by omega), bysN_8] at h
    exact h
  have HP := HB p (by omega)
  have HM := HB m (by omega)
  have LP : Hid ((by8 (UInt64.ofNat p)).length = 8) := rfl
  have LM : Hid ((by8 (UInt64.ofNat m)).length = 8) := rfl
  generalize by8 (UInt64.ofNat p) = tp at HP LP HL
  generalize by8 (UInt64.ofNat m) = tm at HM LM HL
  obtain ⟨t, ht⟩ : ∃ t, leafE (r, (m : Int)) = t := ⟨_, rfl⟩
  have HTL : Hid (t.length = 16) := by unfold Hid; rw [← ht]; rfl
  rw [ht] at HL
  have HT := Lib.hid ht
  have HZ := Lib.hid zero16
  have b0 := alloc3_bel w (.cells #[.int .i64 r, .int .i64 (m : Int)] 79) (.cells (cellsB zeroK).toArray 23) (.cells (cellsB zeroK).toArray 23)
  have B0 := Lib.hid (blk_a0 w #[.int .i64 r, .int .i64 (m : Int)] 79 (.cells (cellsB zeroK).toArray 23) (.cells (cellsB zeroK).toArray 23))
  have B1 := Lib.hid (blk_a1 w (.cells #[.int .i64 r, .int .i64 (m : Int)] 79) (cellsB zeroK).toArray 23 (.cells (cellsB zeroK).toArray 23))
  have B2 := Lib.hid (blk_a2 w (.cells #[.int .i64 r, .int .i64 (m : Int)] 79) (.cells (cellsB zeroK).toArray 23) (cellsB zeroK).toArray 23)
  clear hx h2 h0 h1 h3 HB ht
  go_enter Try.func93, Try.ntmps93
  go_wp2_with fail
  rw [HZ.out]
  obtain ⟨W0, hW0⟩ : ∃ W : World, W = ((w.alloc (.cells #[.int .i64 r, .int .i64 (m : Int)] 79)).alloc (.cells (cellsB zeroK).toArray 23)).alloc (.cells (cellsB zeroK).toArray 23) := ⟨_, rfl⟩
  rw [← hW0] at b0 B0 B1 B2 ⊢
  clear hW0
  refine wp_region_noPanic ?_
  have bw : Below w.heap.size w W0.drew := b0.drew
  have HS : Hid (∀ W, Below W0.heap.size W0 W → W.cell? ⟨w.heap.size, 0, none⟩ = some (.int .i64 r) ∧ W.cell? ⟨w.heap.size, 1, none⟩ = some (.int .i64 (m : Int))) := fun W hW => ⟨(B0.out.below' hW).cell 0, (B0.out.below' hW).cell 1⟩
  have bd : Below W0.heap.size W0 W0.drew := (Below.refl _ _).drew
  refine wp_region_held_drew (S := fun w' => w'.cell? ⟨w.heap.size, 0, none⟩ = some (.int .i64 r) ∧ w'.cell? ⟨w.heap.size, 1, none⟩ = some (.int .i64 (m : Int))) (by kernel_rfl) (HS.out _ bd) (fun hS => ?_)
  refine hd_take 0 (_) rfl rfl (by kernel_rfl) (by kernel_rfl) (by kernel_rfl) (fun _ _ _ h => h) (fun w _ => by go_simp <;> rfl) hS ?_
  refine hd_take 5 (_) rfl rfl (by kernel_rfl) (by kernel_rfl) (by kernel_rfl) (fun _ _ _ h => h) (fun w _ => by go_simp <;> rfl) hS ?_
  simp only [List.getElem_toArray, List.getElem_cons_succ, List.getElem_cons_zero, Act.put, List.setIfInBounds_toArray, List.set_cons_zero, List.set_cons_succ]
  refine hd_take 1 (.int .i64 r) rfl rfl (by kernel_rfl) (by kernel_rfl) (by kernel_rfl) (fun _ _ _ h => h) (fun w h => by have hx := h.1; simp [go_sem, hx]) hS ?_
  refine hd_take 6 (.int .i64 (m : Int)) rfl rfl (by kernel_rfl) (by kernel_rfl) (by kernel_rfl) (fun _ _ _ h => h) (fun w h => by have hx := h.2; simp [go_sem, hx]) hS ?_
  simp only [List.getElem_toArray, List.getElem_cons_succ, List.getElem_cons_zero, Act.put, List.setIfInBounds_toArray, List.set_cons_zero, List.set_cons_succ]
  refine hd_take 2 (.int .i64 (p : Int)) rfl rfl (by kernel_rfl) (by kernel_rfl) (by kernel_rfl) (fun _ _ _ h => h) (fun w _ => by simp [go_sem, hb1]) hS ?_
  refine hd_take 7 (.int .u64 (m : Int)) rfl rfl (by kernel_rfl) (by kernel_rfl) (by kernel_rfl) (fun _ _ _ h => h) (fun w _ => by simp [execOp, Act.eval, Sem.run_bind, go_sem, hb3]) hS ?_
  simp only [List.getElem_toArray, List.getElem_cons_succ, List.getElem_cons_zero, Act.put, List.setIfInBounds_toArray, List.set_cons_zero, List.set_cons_succ]
  refine hd_take 3 (.int .u64 (p : Int)) rfl rfl (by kernel_rfl) (by kernel_rfl) (by kernel_rfl) (fun _ _ _ h => h) (fun w _ => by simp [execOp, Act.eval, Sem.run_bind, go_sem, hb2]) hS ?_
  simp only [List.getElem_toArray, List.getElem_cons_succ, List.getElem_cons_zero, Act.put, List.setIfInBounds_toArray, List.set_cons_zero, List.set_cons_succ]
  refine hd_calls 4 138 #[.int .u64 (p : Int), .int .i64 8] rfl rfl (by kernel_rfl) (by go_simp <;> rfl) ?_
  refine (HP.out _).mono ?_
  rintro e w1 ⟨A1, c1, rfl, ho1, hb1⟩
  have d1 := bel_on bd hb1
  refine ⟨_, rfl, HS.out _ d1, ?_⟩
  simp only [List.getElem_toArray, List.getElem_cons_succ, List.getElem_cons_zero, Act.put, List.setIfInBounds_toArray, List.set_cons_zero, List.set_cons_succ]
  refine hd_calls 8 138 #[.int .u64 (m : Int), .int .i64 8] rfl rfl (by kernel_rfl) (by go_simp <;> rfl) ?_
  refine (HM.out _).mono ?_
  rintro e w2 ⟨A2, c2, rfl, ho2, hb2⟩
  have d2 := bel_on d1 hb2
  refine ⟨_, rfl, HS.out _ d2, ?_⟩
  simp only [List.getElem_toArray, List.getElem_cons_succ, List.getElem_cons_zero, Act.put, List.setIfInBounds_toArray, List.set_cons_zero, List.set_cons_succ]
  refine hd_appendB 9 (.tmp 10) (.tmp 14) rfl rfl rfl (by kernel_rfl) W0.heap.size A1 8 c1 tp LP.out rfl ((ho1.below hb2)) A2 8 c2 tm LM.out rfl ((ho2.br (by rw [LM.out]; omega)).src LM.out) (by omega) d2.size ?_
  intro A3 c3 w3 ho3 hb3
  have d3 := d2.trans hb3
  refine ⟨HS.out _ d3, ?_⟩
  simp only [List.getElem_toArray, List.getElem_cons_succ, List.getElem_cons_zero, Act.put, List.setIfInBounds_toArray, List.set_cons_zero, List.set_cons_succ]
  refine hd_take 10 (_) rfl rfl (by kernel_rfl) (by kernel_rfl) (by kernel_rfl) (fun _ _ _ h => h) (fun w _ => by go_simp <;> rfl) (HS.out _ d3) ?_
  simp only [List.getElem_toArray, List.getElem_cons_succ, List.getElem_cons_zero, Act.put, List.setIfInBounds_toArray, List.set_cons_zero, List.set_cons_succ]
  refine wpAnyH_done (by kernel_rfl) (NoPanic.normal ?_) _
  have K1 := Lib.hid (B1.out.below' d3)
  have K2 := Lib.hid (B2.out.below' d3)
  rw [← HL.out] at ho3
  have HR := Lib.hid ho3
  have bw3 : Below w.heap.size w w3 := bel_on b0 d3
  clear hS bw ho1 ho2 ho3 hb1 hb2 hb3 d1 d2 d3 bd HS
  go_wp2_with fail
  go_loopw [5] (fun vk wr => ∃ k : Nat, k ≤ 16 ∧ vk = .int .i64 (k : Int) ∧ Hid (Blk wr (w.heap.size + 1) 23 (cellsB zeroK).toArray) ∧ Hid (Blk wr (w.heap.size + 1 + 1) 23 (cellsB (padS t k)).toArray) ∧ Hid (OB W0.heap.size wr A3 c3 t) ∧ Below w.heap.size w wr) (fun vk _ => 16 - (intOf vk).toNat)
  case atStart => exact ⟨0, by omega, rfl, K1, K2, HR, bw3⟩
  case round =>
    obtain ⟨k, hk, rfl, HB1, HB2, HR2, hbel⟩ := hrel
    by_cases h1 : k < 16
    · have hki : (k : Int) < 16 := by omega
      obtain ⟨b, off, rfl, hb, hc⟩ := (HR2.out.br (by rw [HTL.out]; omega)).at_ (i := k) (by have := HTL.out; omega)
      have HST := Lib.hid (padS_step t k h1)
      unfold bt at hc
      generalize t.getD k 0 = v at hc HST
      have d0 := (HB2.out.cell k).trans (bytes_get _ k (by rw [padS_length]; omega))
      have f0 := HB2.out.frozen k
      have HB3 : Hid (Blk (wr.setCell ⟨w.heap.size + 1 + 1, k, none⟩ (.int .u8 (v.toNat : Int))) (w.heap.size + 1 + 1) 23 (cellsB (padS t (k + 1))).toArray) := by
        have := HB2.out.set_ k (.int .u8 (v.toNat : Int))
        rw [bytes_set, HST.out] at this
        exact this
      have HOW : Hid (OB W0.heap.size (wr.setCell ⟨w.heap.size + 1 + 1, k, none⟩ (.int .u8 (v.toNat : Int))) (some ⟨b, off, none⟩) c3 t) := own_set_apart HR2.out HB2.out (by decide) k _
      go_wp2_with fail
      go_roundw
      case rel => exact ⟨k + 1, by omega, by go_num, HB1.out.far (p := ⟨w.heap.size + 1 + 1, k, none⟩) (by simp) _, HB3.out, HOW.out, hbel.setCell (p := ⟨w.heap.size + 1 + 1, k, none⟩) (by simp; omega) _⟩
      case measure => simp [intOf]; omega
    · obtain rfl : k = 16 := by omega
      have HF : Hid (padS t 16 = t) := (padS_fin t 16 (.inl rfl)).trans (padK_16 HTL.out)
      rw [HF.out] at HB2
      have hL := HTL.out
      go_wp2_with (first
        | (refine wpList_load_row rfl 23 (.tmp 3) rfl (w.heap.size + 1 + 1) rfl 23 (cellsB t).toArray (0, 0) _ HB2.out under_key rfl (cellsB_size _ hL) ?_)
        | (refine wpList_store_row rfl 23 (.tmp 2) (.tmp 26) rfl (w.heap.size + 1) (cellsB t).toArray rfl rfl 23 (cellsB zeroK).toArray HB1.out (cellsB_size _ hL) (cellsB_sizes _ _ zeroK_length hL) (cellsB_all _) ?_))
      exact bodyPost_ret (results_cell_row rfl _ _ (w.heap.size + 1) _ _ (0, 0) _ rfl (HB1.out.setRow (cellsB t).toArray) under_key rfl (cellsB_size _ hL)) rfl ⟨by rw [HT.out], below_setRow hbel (by omega) _⟩
end Go.Proofs.Ytinpiodfpnbllaa
