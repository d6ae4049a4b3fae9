/-
  order and the reference's Order: the comparison of two numbers.
-/
import Derived.Test.YtphaojdfeojpeaaBackward
import Derived.Test.YtphaojdfeojpeaaBits32
namespace Go.Proofs.Ytphaojdfeojpeaa
open Go.RowKit Go.Shelf
set_option linter.unusedVariables false
attribute [local go_sem] Oper.semAt_some

set_option maxHeartbeats 1000000 in
theorem order_len (A : Option Addr) (ca : Nat) (a : List Nat) (Bd : Option Addr) (cb : Nat) (b : List Nat) (w : World) {na nb : Nat} (hna : a.length = na) (hnb : b.length = nb) (ha : NR w A ca a) (hb : NR w Bd cb b) (ta : Trm a) (tb : Trm b) (hne : na ≠ nb) :
    Calls Try.prog 92 #[.slice A na ca, .slice Bd nb cb] w fun e w' => e = .returned (.int .i64 (cmpN (val a) (val b))) ∧ Below w.heap.size w w' := by
  have la : (na : Int) ≤ 35184372088832 := by have := ha.len; omega
  have lb : (nb : Int) ≤ 35184372088832 := by have := hb.len; omega
  have h1 : ((na : Int) != nb) = true := by simp; omega
  have h1' : (na != nb) = true := by simp; omega
  rcases Nat.lt_or_ge na nb with h | h
  · have HC := Lib.hid (cmpN_lt (val_lt_of_len ha.dig tb (by omega)))
    go_enter Try.func92, Try.ntmps92
    go_wp2
    refine bodyPost_ret (v := .int .i64 (-1)) (by simp [results, Try.f92, go_sem]) rfl ?_
    exact ⟨by rw [HC.out], by first | exact (((Below.refl _ _).alloc (Nat.le_refl _) _).alloc (by simp) _) | exact (((Below.refl _ _).alloc (Nat.le_refl _) _).alloc (by simp) _).setCell (by simp) _⟩
  · have HC := Lib.hid (cmpN_gt (val_lt_of_len hb.dig ta (by omega)))
    go_enter Try.func92, Try.ntmps92
    go_wp2
    refine bodyPost_ret (v := .int .i64 1) (by simp [results, Try.f92, go_sem]) rfl ?_
    exact ⟨by rw [HC.out], by first | exact (((Below.refl _ _).alloc (Nat.le_refl _) _).alloc (by simp) _) | exact (((Below.refl _ _).alloc (Nat.le_refl _) _).alloc (by simp) _).setCell (by simp) _⟩

theorem back_pre {n m k : Nat} {ini : List (Fin m)} {last : Fin m} (h : (ini ++ [last]).map Fin.val = backI n k) : ∃ k', k = k' + 1 ∧ ini.map Fin.val = backI n k' ∧ last.1 = n - 1 - k' := by
  cases k with
  | zero => simp [backI] at h
  | succ k' =>
    rw [backI_succ, List.map_append] at h
    obtain ⟨h1, h2⟩ := List.append_inj' h rfl
    exact ⟨k', rfl, h1, by simpa using h2⟩

/-- The digits that have come are those of b. -/
def SameB (a b : List Nat) (pre : List (Fin a.length)) : Prop := ∀ p ∈ pre, dg a p.1 = dg b p.1
theorem SameB.top {a b : List Nat} {pre : List (Fin a.length)} {k : Nat} (h : SameB a b pre) (hp : pre.map Fin.val = backI a.length k) (hab : b.length = a.length) (hk : k ≤ a.length) : ∀ j, a.length - k ≤ j → dg a j = dg b j := fun j hj => by
  rcases Nat.lt_or_ge j a.length with h1 | h1
  · have hm := backI_mem hj h1 hk
    rw [← hp] at hm
    obtain ⟨p, hp1, hp2⟩ := List.mem_map.1 hm
    rw [← hp2]
    exact h p hp1
  · rw [dg_out h1, dg_out (by omega)]

set_option maxRecDepth 100000 in
set_option maxHeartbeats 2000000 in
theorem order_same (A : Option Addr) (ca : Nat) (a : List Nat) (Bd : Option Addr) (cb : Nat) (b : List Nat) (w : World) (hab : b.length = a.length) (ha : NR w A ca a) (hb : NR w Bd cb b) :
    Calls Try.prog 92 #[.slice A a.length ca, .slice Bd a.length cb] w fun e w' => e = .returned (.int .i64 (cmpN (val a) (val b))) ∧ Below w.heap.size w w' := by
  have la : (a.length : Int) ≤ 35184372088832 := int_le_of ha.len
  refine (callsIn_wide (n := 4)).1 ?_
  generalize hF : Fence.wide = F
  have hro : F.round = none := by rw [← hF]; rfl
  have hfn : ∀ f, F.fn f := by rw [← hF]; exact fun _ => trivial
  clear hF
  refine callsIn_of_wp_marks Try.func92 rfl (hfn _) ?_ hro
  simp only [Try.ntmps92, List.size_toArray, List.length_cons, List.length_nil, Nat.reduceAdd, Nat.reduceSub, Array.replicate_succ, Array.replicate_zero, List.push_toArray, List.append_toArray, List.nil_append, List.cons_append]
  gi_wp2_with (gi_at_call 106; refine (back_in F 3 (hfn _) hro _ _ _ _).mono ?_; rintro e w' ⟨rfl, rfl⟩)
  have bB := Boxed.new w 41 (.slice Bd a.length cb)
  have bR := Boxed.new (w.alloc (.cells #[.slice Bd a.length cb] 41)) 3 (.int .i64 0)
  have bS := Boxed.new ((w.alloc (.cells #[.slice Bd a.length cb] 41)).alloc (.cells #[.int .i64 0] 3)) 41 (.slice A a.length ca)
  simp only [World.size_alloc] at bR bS
  have hB0 : Below w.heap.size w (((w.alloc (.cells #[.slice Bd a.length cb] 41)).alloc (.cells #[.int .i64 0] 3)).alloc (.cells #[.slice A a.length ca] 41)) := (((Below.refl _ w).alloc (Nat.le_refl _) _).alloc (by simp) _).alloc (by simp; omega) _
  refine wpIn_rangeFunc_ownG hro (by omega) (gf := 118) (lb := #[.pointer (some ⟨w.heap.size + 1 + 1, 0, none⟩)]) rfl (hfn _) (enters_of Try.func118 (by kernel_rfl) rfl)
    (back_stops F 3 (hfn _) hro (by omega) (w.heap.size + 1 + 1) w A ca a ha _ hB0 (by simp) bS.cell) KB.trans (KB.put (by simp; omega) (by simp)) (Below.refl _ _) (fun _ => rfl)
    (fun pre W => (SameB a b pre ∧ (W.cell? ⟨w.heap.size, 0, none⟩ = some (.slice Bd a.length cb)) ∧ W.cell? ⟨w.heap.size + 1, 0, none⟩ = some (.int .i64 0) ∧ W.frozen? ⟨w.heap.size + 1, 0, none⟩ = false) ∧ Below w.heap.size w W)
    (fun c pre W => (c = .ret ∧ ∃ ini last, pre = ini ++ [last] ∧ SameB a b ini ∧ ((dg a last.1 < dg b last.1 ∧ W.cell? ⟨w.heap.size + 1, 0, none⟩ = some (.int .i64 (-1))) ∨ (dg b last.1 < dg a last.1 ∧ W.cell? ⟨w.heap.size + 1, 0, none⟩ = some (.int .i64 1)))) ∧ Below w.heap.size w W)
    ?hI ?hIx ?h0
    (fun x => { tmps := #[.slice A a.length ca, .slice Bd a.length cb, undef, .pointer (some ⟨w.heap.size, 0, none⟩), .pointer (some ⟨w.heap.size + 1, 0, none⟩), .int .i64 (x.1 : Int), .int .u32 (dg a x.1 : Int), .slice A a.length ca, .int .i64 (a.length : Int), .slice Bd a.length cb, .int .i64 (a.length : Int), .bool false, undef, undef, undef, undef, undef, .slice A a.length ca, .func (.func 118) #[] #[.pointer (some ⟨w.heap.size + 1 + 1, 0, none⟩)], .int .i64 (x.1 : Int), .int .u32 (dg a x.1 : Int), undef, undef, undef, undef, undef, undef, undef, undef, undef, undef, undef, undef, undef, undef], defers := [] }) ?assign ?body ?done ?stop
  case hI => exact OwnFrom.and (Own.from (fun s A B row hs hg hr => ⟨hs.1, cell_kept hs.2.1 hg hr, cell_kept hs.2.2.1 hg hr, (frozen_kept hs.2.2.1 hg hr).trans hs.2.2.2⟩) _) (ownFrom_below (Nat.le_refl _) (by simp; omega))
  case hIx =>
    exact fun c => OwnFrom.and (Own.from (fun s A B row hs hg hr => by
      obtain ⟨hc, ini, last, e1, e2, e3⟩ := hs
      exact ⟨hc, ini, last, e1, e2, e3.imp (fun h => ⟨h.1, cell_kept h.2 hg hr⟩) (fun h => ⟨h.1, cell_kept h.2 hg hr⟩)⟩) _) (ownFrom_below (Nat.le_refl _) (by simp; omega))
  case h0 => exact ⟨⟨(fun p hp => by cases hp), ((bB.alloc _).alloc _).cell, (bR.alloc _).cell, (bR.alloc _).frozen⟩, hB0⟩
  case assign =>
    intro l x W K hK
    gi_wp2
    exact hK
  case body =>
    rintro l pre x W ⟨⟨hs, hcb, hcr, hfr⟩, hB⟩ _
    obtain ⟨bb, off, rfl, hbb, hc⟩ := hb.at_ (i := x.1) (by have := x.2; omega)
    have hc2 := (hB.cell (p := ⟨bb, off + x.1, none⟩) hbb).trans hc
    have hxl : (x.1 : Int) < a.length := by have := x.2; omega
    clear hc
    rcases Nat.lt_trichotomy (dg a x.1) (dg b x.1) with h | h | h
    · have t1 : decide (dg a x.1 < dg b x.1) = true := by simpa using h
      have H := Lib.hid h
      have HS := Lib.hid hs
      clear hs h
      gi_wp2
      exact ⟨(KeepsOthers.setCell _ _ _).from _, ⟨rfl, pre, x, rfl, HS.out, .inl ⟨H.out, World.cell?_setCell_same' _ _ _ (by rw [hcr]; rfl)⟩⟩, hB.setCell (p := ⟨w.heap.size + 1, 0, none⟩) (by simp) _⟩
    · have t1 : decide (dg a x.1 < dg b x.1) = false := by simp; omega
      have t2 : decide (dg b x.1 < dg a x.1) = false := by simp; omega
      have H := Lib.hid h
      have HS := Lib.hid hs
      clear hs h
      gi_wp2
      exact ⟨KeepsFrom.refl _ _, ⟨Below.refl _ _, rfl⟩, ⟨fun p hp => (List.mem_append.1 hp).elim (HS.out p) (fun e => by rw [List.mem_singleton.1 e]; exact H.out), hcb, hcr, hfr⟩, hB⟩
    · have t1 : decide (dg a x.1 < dg b x.1) = false := by simp; omega
      have t2 : decide (dg b x.1 < dg a x.1) = true := by simpa using h
      have H := Lib.hid h
      have HS := Lib.hid hs
      clear hs h
      gi_wp2
      exact ⟨(KeepsOthers.setCell _ _ _).from _, ⟨rfl, pre, x, rfl, HS.out, .inr ⟨H.out, World.cell?_setCell_same' _ _ _ (by rw [hcr]; rfl)⟩⟩, hB.setCell (p := ⟨w.heap.size + 1, 0, none⟩) (by simp) _⟩
  case done =>
    rintro D ys W hD hys ⟨⟨hs, hcb, hcr, hfr⟩, hB⟩ hK
    have HV : Hid (cmpN (val a) (val b) = 0) := cmpN_eq (val_ext fun j => hs.top hys hab (Nat.le_refl _) j (by omega))
    clear hs hys
    gi_wp2
    have hK' := (KeepsOthers.setCell W ⟨w.heap.size + 1, 0, none⟩ (.int .i64 0)).same D _ hK rfl
    refine ⟨by simp, .inl ⟨_, _, rfl, run_takeDeferred hK', ?_⟩⟩
    have hc5 := cell_kept (World.cell?_setCell_same' W ⟨w.heap.size + 1, 0, none⟩ (.int .i64 0) (by rw [hcr]; rfl)) (grownBy_putObj' _ D (.deferred none)) (fun r e => by cases e; exact ⟨_, hK', rfl⟩)
    refine ⟨.int .i64 0, ?_, by rw [HV.out], (hB.setCell (p := ⟨w.heap.size + 1, 0, none⟩) (by simp) _).trans (belowK_b (w := w) (Nat.le_refl _) _ D _ _ (by simp at hD; omega) hK' rfl rfl)⟩
    simp [results, Try.f92, go_sem, hc5]
  case stop =>
    rintro D c pre W hD ⟨k, hk, hp⟩ ⟨⟨rfl, ini, last, e1, hs, e3⟩, hB⟩ hK
    rw [e1] at hp
    obtain ⟨k', rfl, hi, hl⟩ := back_pre hp
    have htop := hs.top hi hab (by omega)
    gi_wp2
    refine ⟨by simp, .inl ⟨_, _, rfl, run_takeDeferred hK, ?_⟩⟩
    rcases e3 with ⟨h1, h2⟩ | ⟨h1, h2⟩
    · have hc5 := cell_kept h2 (grownBy_putObj' _ D (.deferred none)) (fun r e => by cases e; exact ⟨_, hK, rfl⟩)
      refine ⟨.int .i64 (-1), ?_, by rw [cmpN_lt (val_lt_of_top (i := last.1) ha.dig (fun j hj => htop j (by omega)) h1)], hB.trans (belowK_b (w := w) (Nat.le_refl _) W D _ _ (by simp at hD; omega) hK rfl rfl)⟩
      simp [results, Try.f92, go_sem, hc5]
    · have hc5 := cell_kept h2 (grownBy_putObj' _ D (.deferred none)) (fun r e => by cases e; exact ⟨_, hK, rfl⟩)
      refine ⟨.int .i64 1, ?_, by rw [cmpN_gt (val_lt_of_top (i := last.1) hb.dig (fun j hj => (htop j (by omega)).symm) h1)], hB.trans (belowK_b (w := w) (Nat.le_refl _) W D _ _ (by simp at hD; omega) hK rfl rfl)⟩
      simp [results, Try.f92, go_sem, hc5]

/-- order of two trimmed numbers. -/
theorem order_any (A : Option Addr) (ca : Nat) (a : List Nat) (Bd : Option Addr) (cb : Nat) (b : List Nat) (w : World) {na nb : Nat} (hna : a.length = na) (hnb : b.length = nb) (ha : NR w A ca a) (hb : NR w Bd cb b) (ta : Trm a) (tb : Trm b) :
    Calls Try.prog 92 #[.slice A na ca, .slice Bd nb cb] w fun e w' => e = .returned (.int .i64 (cmpN (val a) (val b))) ∧ Below w.heap.size w w' := by
  by_cases h : na = nb
  · subst hna
    rw [← h]
    exact order_same A ca a Bd cb b w (by omega) ha hb
  · exact order_len A ca a Bd cb b w hna hnb ha hb ta tb h
end Go.Proofs.Ytphaojdfeojpeaa
