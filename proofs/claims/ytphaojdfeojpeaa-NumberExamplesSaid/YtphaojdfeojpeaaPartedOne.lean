/-
  parted, where the divisor has one digit; parted, whatever the numbers.
-/
import Derived.Test.YtphaojdfeojpeaaParted
import Derived.Test.YtphaojdfeojpeaaRoundRegion
namespace Go.Proofs.Ytphaojdfeojpeaa
open Go.RowKit Go.Shelf
set_option linter.unusedVariables false
attribute [local go_sem] Oper.semAt_some

/-- The rest and the quotient when the digits with these indexes have come. -/
def dvS (a : List Nat) (d : Nat) (is : List Nat) : Nat × List Nat :=
  is.foldl (fun s i => ((s.1 * 4294967296 + dg a i) % d, s.2.set i ((s.1 * 4294967296 + dg a i) / d))) (0, List.replicate a.length 0)
theorem dvS_nil (a : List Nat) (d : Nat) : dvS a d [] = (0, List.replicate a.length 0) := rfl
theorem dvS_snoc (a : List Nat) (d : Nat) (is : List Nat) (i : Nat) :
    dvS a d (is ++ [i]) = (((dvS a d is).1 * 4294967296 + dg a i) % d, (dvS a d is).2.set i (((dvS a d is).1 * 4294967296 + dg a i) / d)) := by
  simp [dvS, List.foldl_append]
theorem dvS_ok {a : List Nat} {d : Nat} (ha : Dig a) (hd : 0 < d) (is : List Nat) : (dvS a d is).1 < d ∧ Dig (dvS a d is).2 ∧ (dvS a d is).2.length = a.length := by
  suffices ∀ (is : List Nat) (s : Nat × List Nat), s.1 < d ∧ Dig s.2 ∧ s.2.length = a.length →
      (is.foldl (fun s i => ((s.1 * 4294967296 + dg a i) % d, s.2.set i ((s.1 * 4294967296 + dg a i) / d))) s).1 < d ∧ Dig (is.foldl (fun s i => ((s.1 * 4294967296 + dg a i) % d, s.2.set i ((s.1 * 4294967296 + dg a i) / d))) s).2 ∧
      (is.foldl (fun s i => ((s.1 * 4294967296 + dg a i) % d, s.2.set i ((s.1 * 4294967296 + dg a i) / d))) s).2.length = a.length from this is _ ⟨hd, Dig.replicate _, by simp⟩
  intro is
  induction is with
  | nil => exact fun s h => h
  | cons i is ih =>
    rintro s ⟨h1, h2, h3⟩
    refine ih _ ⟨Nat.mod_lt _ hd, h2.set i ?_, by simpa using h3⟩
    rw [Nat.div_lt_iff_lt_mul hd]
    have h4 := dg_lt ha i
    have h5 : (s.1 + 1) * 4294967296 ≤ d * 4294967296 := Nat.mul_le_mul_right _ h1
    rw [Nat.mul_comm 4294967296 d]
    omega
theorem dvS_back {a : List Nat} {d : Nat} (ha : Dig a) (hd : 0 < d) : ∀ k, k ≤ a.length → (dvS a d (backI a.length k)).1 = val (a.drop (a.length - k)) % d ∧ val ((dvS a d (backI a.length k)).2.drop (a.length - k)) = val (a.drop (a.length - k)) / d := by
  intro k
  induction k with
  | zero =>
    intro _
    have e : backI a.length 0 = [] := rfl
    rw [e, dvS_nil]
    simp [val, List.drop_of_length_le]
  | succ k ih =>
    intro hk
    obtain ⟨h1, h2⟩ := ih (by omega)
    obtain ⟨o1, o2, o3⟩ := dvS_ok ha hd (backI a.length k)
    rw [backI_succ, dvS_snoc]
    generalize dvS a d (backI a.length k) = s at *
    obtain ⟨i, hi⟩ : ∃ i, a.length - (k + 1) = i := ⟨_, rfl⟩
    have hi1 : a.length - 1 - k = i := by omega
    have hi2 : a.length - k = i + 1 := by omega
    rw [hi1, hi]
    rw [hi2] at h1 h2
    dsimp only
    rw [val_drop_succ a i, val_drop_succ (s.2.set i _) i, dg_set_same (by omega)]
    have e : val ((s.2.set i ((s.1 * 4294967296 + dg a i) / d)).drop (i + 1)) = val (s.2.drop (i + 1)) := val_ext fun p => by rw [dg_drop, dg_drop, dg_set_other (by omega)]
    rw [e, h2, h1]
    generalize val (a.drop (i + 1)) = X
    generalize dg a i = y
    have e1 : y + 4294967296 * X = (X % d * 4294967296 + y) + d * (4294967296 * (X / d)) := by
      have := Nat.div_add_mod X d
      have e2 : d * (4294967296 * (X / d)) = 4294967296 * (d * (X / d)) := by rw [Nat.mul_left_comm]
      omega
    rw [e1, Nat.add_mul_mod_self_left, Nat.add_mul_div_left _ _ hd]
    exact ⟨rfl, rfl⟩
theorem dvS_fin {a : List Nat} {d : Nat} (ha : Dig a) (hd : 0 < d) : (dvS a d (backI a.length a.length)).1 = val a % d ∧ val (dvS a d (backI a.length a.length)).2 = val a / d := by
  have := dvS_back ha hd a.length (Nat.le_refl _)
  simpa using this

theorem blk_kept {W W' : World} {row : Option Nat} {g : Nat} {l : List Nat} (h : BlkN W g l) (hg : W.grownBy W' row) (hrow : ∀ r, row = some r → ∃ o : Obj, W.heap[r]? = some o ∧ o.isCells = false) : BlkN W' g l :=
  ⟨(grownBy_keeps_cells hg hrow h.1 rfl).trans h.1, h.2⟩
theorem cell_far {W : World} {p a : Addr} {u v : Value} (h : a.block ≠ p.block) (hc : W.cell? a = some v) : (W.setCell p u).cell? a = some v := (World.cell?_of_block (Below.heap_setCell W p u a.block h)).trans hc
theorem frozen_far {W : World} {p a : Addr} {u : Value} (h : a.block ≠ p.block) {t : Bool} (hc : W.frozen? a = t) : (W.setCell p u).frozen? a = t := (World.frozen?_of_block (Below.heap_setCell W p u a.block h)).trans hc

set_option maxRecDepth 100000 in
set_option maxHeartbeats 4000000 in
theorem parted_one (A : Option Addr) (ca : Nat) (a : List Nat) (Bd : Option Addr) (cb : Nat) (b : List Nat) (w : World) (hb1 : b.length = 1) (ha : NR w A ca a) (hb : NR w Bd cb b) (ta : Trm a) (tb : Trm b) (hl : val b ≤ val a) (la : a.length ≤ 1048576) :
    Calls Try.prog 75 #[.slice A a.length ca, .slice Bd 1 cb] w fun e w' => PartOut w w' e (val a) (val b) := by
  obtain ⟨z, hz, HZ⟩ : ∃ z : Int, z = cmpN (val a) (val b) ∧ decide (z < 0) = false := ⟨_, rfl, by rcases cmpN_cases (val a) (val b) with ⟨h, e⟩ | ⟨h, e⟩ | ⟨h, e⟩ <;> (try rw [e]) <;> first | omega | rfl⟩
  have HZ0 := Lib.hid hz
  have hbel0 : Below w.heap.size w ((w.alloc (.cells #[.slice A a.length ca] 41)).alloc (.cells #[.slice Bd 1 cb] 41)) := ((Below.refl _ _).alloc (Nat.le_refl _) _).alloc (by simp) _
  have Ra := Lib.hid ha
  have Rb := Lib.hid hb
  have la2 : (a.length : Int) ≤ 1048576 := by omega
  have hmk := run_make_row' (P := Try.prog) 41 85 (.int .u32 0) 4 Try.underlying41 u32_info rfl .i64 .i64 a.length (by omega) (by omega)
  clear hz ha hb
  refine (callsIn_wide (n := 4)).1 ?_
  have conv : ∀ (f : FuncId) (args : Array Value) (W : World) (R : Ending → World → Prop) (n : Nat), Calls Try.prog f args W R → CallsIn Fence.wide n Try.prog f args W R := fun _ _ _ _ _ h => callsIn_wide.2 h
  have convR : ∀ (row : String) (args : Array Value) (W : World) (R : Value → World → Prop) (n : Nat), Rows Try.prog row args W R → RowsIn Fence.wide n Try.prog row args W R := fun _ _ _ _ _ h => rows_wide h
  have hro : Fence.wide.round = none := rfl
  have hfn : ∀ f, Fence.wide.fn f := fun _ => trivial
  generalize Fence.wide = F at *
  refine callsIn_of_wp_marks Try.func75 rfl (hfn _) ?_ hro
  simp only [Try.ntmps75, List.size_toArray, List.length_cons, List.length_nil, Nat.reduceAdd, Nat.reduceSub, Array.replicate_succ, Array.replicate_zero, List.push_toArray, List.append_toArray, List.nil_append, List.cons_append]
  gi_wp2_with fail
  refine (conv _ _ _ _ _ (order_any A ca a Bd cb b _ rfl hb1 (Ra.out.below hbel0) (Rb.out.below hbel0) ta tb)).mono ?_
  rintro e w1 ⟨rfl, hbel1⟩
  rw [← HZ0.out]
  have c2 : w1.cell? ⟨w.heap.size, 0, none⟩ = some (.slice A a.length ca) := (hbel1.cell (p := ⟨w.heap.size, 0, none⟩) (by simp <;> omega)).trans (by simp)
  have c3 : w1.cell? ⟨w.heap.size + 1, 0, none⟩ = some (.slice Bd 1 cb) := (hbel1.cell (p := ⟨w.heap.size + 1, 0, none⟩) (by simp <;> omega)).trans (by simp)
  have hs1 : w.heap.size + 1 < w1.heap.size := Nat.lt_of_lt_of_le (by simp) hbel1.size
  have hb3 : Below w1.heap.size w1 (((w1.alloc (.cells (madeCells #[Value.int .u32 0] a.length) 85)).alloc (.cells #[.slice (some ⟨w1.heap.size, 0, none⟩) a.length a.length] 41)).alloc (.cells #[.int .u32 0] 85)) :=
    (((Below.refl _ w1).alloc (Nat.le_refl _) _).alloc (by simp) _).alloc (by simp; omega) _
  have c2' := (hb3.cell (p := ⟨w.heap.size, 0, none⟩) (by show w.heap.size < w1.heap.size; omega)).trans c2
  gi_wp2_with (gi_at_call 106; refine (back_in F 3 (hfn _) hro _ _ _ _).mono ?_; rintro e w' ⟨rfl, rfl⟩)
  obtain ⟨WS, hWS⟩ : ∃ W : World, W = ((((w1.alloc (.cells (madeCells #[Value.int .u32 0] a.length) 85)).alloc (.cells #[.slice (some ⟨w1.heap.size, 0, none⟩) a.length a.length] 41)).alloc (.cells #[.int .u32 0] 85)).alloc (.cells #[.slice A a.length ca] 41)) := ⟨_, rfl⟩
  have hsz : WS.heap.size = w1.heap.size + 1 + 1 + 1 + 1 := by rw [hWS]; simp
  have hB4 : Below w1.heap.size w1 WS := by rw [hWS]; exact hb3.alloc (by simp; omega) _
  have hB0 : Below w.heap.size w WS := (hbel0.trans (hbel1.mono hbel0.size)).trans (hB4.mono (by omega))
  have f1 : WS.cell? ⟨w.heap.size, 0, none⟩ = some (.slice A a.length ca) := (hB4.cell (p := ⟨w.heap.size, 0, none⟩) (by show w.heap.size < w1.heap.size; omega)).trans c2
  have f2 : WS.cell? ⟨w.heap.size + 1, 0, none⟩ = some (.slice Bd 1 cb) := (hB4.cell (p := ⟨w.heap.size + 1, 0, none⟩) hs1).trans c3
  have f3 : WS.cell? ⟨w1.heap.size + 1, 0, none⟩ = some (.slice (some ⟨w1.heap.size, 0, none⟩) a.length a.length) := by
    have := Boxed.new (w1.alloc (.cells (madeCells #[Value.int .u32 0] a.length) 85)) 41 (.slice (some ⟨w1.heap.size, 0, none⟩) a.length a.length)
    rw [World.size_alloc] at this
    rw [hWS]; exact ((this.alloc _).alloc _).cell
  have bR : Boxed WS (w1.heap.size + 1 + 1) 85 (.int .u32 0) := by
    have := Boxed.new ((w1.alloc (.cells (madeCells #[Value.int .u32 0] a.length) 85)).alloc (.cells #[.slice (some ⟨w1.heap.size, 0, none⟩) a.length a.length] 41)) 85 (.int .u32 0)
    rw [World.size_alloc, World.size_alloc] at this
    rw [hWS]; exact this.alloc _
  have f6 : WS.cell? ⟨w1.heap.size + 1 + 1 + 1, 0, none⟩ = some (.slice A a.length ca) := by
    have := Boxed.new (((w1.alloc (.cells (madeCells #[Value.int .u32 0] a.length) 85)).alloc (.cells #[.slice (some ⟨w1.heap.size, 0, none⟩) a.length a.length] 41)).alloc (.cells #[.int .u32 0] 85)) 41 (.slice A a.length ca)
    rw [World.size_alloc, World.size_alloc, World.size_alloc] at this
    rw [hWS]; exact this.cell
  have f5 : BlkN WS w1.heap.size (List.replicate a.length 0) := by rw [hWS]; exact (((BlkN.made w1 a.length).alloc _).alloc _).alloc _
  rw [← hWS]
  have hd : Hid (0 < dg b 0 ∧ val b = dg b 0) := by
    have e : val b = dg b 0 := by
      have := val_take_succ b 0
      rw [List.take_of_length_le (by omega)] at this
      simpa [val] using this
    exact ⟨by have := val_pos tb (by intro e; rw [e] at hb1; simp at hb1); omega, e⟩
  refine wpIn_rangeFunc_ownG hro (by omega) (gf := 118) (lb := #[.pointer (some ⟨w1.heap.size + 1 + 1 + 1, 0, none⟩)]) rfl (hfn _) (enters_of Try.func118 (by kernel_rfl) rfl)
    (back_stops F 3 (hfn _) hro (by omega) (w1.heap.size + 1 + 1 + 1) w A ca a Ra.out WS hB0 (by omega) f6) KB.trans (KB.put (by omega) (by omega)) (Below.refl _ _) (fun _ => rfl)
    (fun pre W => ((W.cell? ⟨w.heap.size, 0, none⟩ = some (.slice A a.length ca)) ∧ W.cell? ⟨w.heap.size + 1, 0, none⟩ = some (.slice Bd 1 cb) ∧ W.cell? ⟨w1.heap.size + 1, 0, none⟩ = some (.slice (some ⟨w1.heap.size, 0, none⟩) a.length a.length) ∧
      W.cell? ⟨w1.heap.size + 1 + 1, 0, none⟩ = some (.int .u32 ((dvS a (dg b 0) (pre.map Fin.val)).1 : Nat)) ∧ W.frozen? ⟨w1.heap.size + 1 + 1, 0, none⟩ = false ∧ BlkN W w1.heap.size (dvS a (dg b 0) (pre.map Fin.val)).2) ∧ Below w.heap.size w W)
    (fun c pre W => False)
    ?hI ?hIx ?h0
    (fun x => { tmps := #[.slice A a.length ca, .slice Bd 1 cb, .pointer (some ⟨w.heap.size, 0, none⟩), .pointer (some ⟨w.heap.size + 1, 0, none⟩), .slice none 0 0, .slice none 0 0, .pointer (some ⟨w1.heap.size + 1, 0, none⟩), .pointer (some ⟨w1.heap.size + 1 + 1, 0, none⟩), .int .i64 (x.1 : Int), undef, undef, undef, undef, undef, undef, undef, undef, undef, undef, undef, .slice A a.length ca, .slice Bd 1 cb, .int .i64 z, .bool false, undef, undef, .slice Bd 1 cb, .int .i64 1, .bool true, .slice A a.length ca, .int .i64 (a.length : Int), .slice (some ⟨w1.heap.size, 0, none⟩) a.length a.length, .slice A a.length ca, .func (.func 118) #[] #[.pointer (some ⟨w1.heap.size + 1 + 1 + 1, 0, none⟩)], .int .i64 (x.1 : Int), .int .u32 (dg a x.1 : Int), undef, undef, undef, undef, undef, undef, undef, undef, undef, undef, undef, undef, undef, undef, undef, undef, undef, undef, undef, undef, undef, undef, undef, undef, undef, undef, undef, undef, undef, undef, undef, undef, undef, undef, undef, undef, undef, undef, undef, undef, undef, undef, undef, undef, undef, undef, undef, undef, undef, undef, undef, undef, undef, undef, undef, undef, undef, undef, undef, undef, undef, undef, undef, undef, undef, undef, undef, undef, undef, undef, undef, undef, undef, undef, undef, undef, undef, undef, undef, undef, undef, undef, undef, undef, undef, undef, undef, undef, undef, undef, undef, undef, undef, undef, undef, undef, undef, undef, undef, undef, undef, undef, undef, undef, undef, undef, undef, undef, undef, undef, undef, undef, undef, undef, undef, undef, undef, undef, undef, undef, undef, undef, undef, undef, undef, undef, undef, undef, undef, undef, undef, undef, undef, undef, undef, undef, undef, undef], defers := [] }) ?assign ?body ?done ?stop
  case hI => exact OwnFrom.and (Own.from (fun s A B row hs hg hr => ⟨cell_kept hs.1 hg hr, cell_kept hs.2.1 hg hr, cell_kept hs.2.2.1 hg hr, cell_kept hs.2.2.2.1 hg hr, (frozen_kept hs.2.2.2.1 hg hr).trans hs.2.2.2.2.1, blk_kept hs.2.2.2.2.2 hg hr⟩) _) (ownFrom_below (Nat.le_refl _) (by omega))
  case hIx => exact fun c s W W' row hs hg hr => hs.elim
  case h0 => exact ⟨⟨f1, f2, f3, bR.cell, bR.frozen, f5⟩, hB0⟩
  case assign =>
    intro l x W K hK
    gi_wp2
    exact hK
  case body =>
    rintro l pre x W ⟨⟨g1, g2, g3, g4, g5, g6⟩, hB⟩ _
    obtain ⟨o1, o2, o3⟩ := dvS_ok (a := a) Ra.out.dig hd.out.1 (pre.map Fin.val)
    have hsn : Hid (dvS a (dg b 0) ((pre ++ [x]).map Fin.val) = (((dvS a (dg b 0) (pre.map Fin.val)).1 * 4294967296 + dg a x.1) % dg b 0, (dvS a (dg b 0) (pre.map Fin.val)).2.set x.1 (((dvS a (dg b 0) (pre.map Fin.val)).1 * 4294967296 + dg a x.1) / dg b 0))) := by
      unfold Hid
      rw [List.map_append]
      exact dvS_snoc _ _ _ _
    generalize dvS a (dg b 0) (pre.map Fin.val) = sq at *
    obtain ⟨s, q⟩ := sq
    dsimp only at o1 o2 o3 hsn g4 g6
    obtain ⟨ba, oa, rfl, hba, hca0⟩ := Ra.out.at_ (i := x.1) x.2
    obtain ⟨bb, ob, rfl, hbb, hcb0⟩ := Rb.out.at_ (i := 0) (by omega)
    have hca : W.cell? ⟨ba, oa + x.1, none⟩ = some (.int .u32 (dg a x.1 : Nat)) := (hB.cell (p := ⟨ba, _, none⟩) hba).trans hca0
    have hcb : W.cell? ⟨bb, ob, none⟩ = some (.int .u32 (dg b 0 : Nat)) := (hB.cell (p := ⟨bb, _, none⟩) hbb).trans hcb0
    clear hca0 hcb0
    have k1 := Lib.hid (dg_lt Ra.out.dig x.1)
    have k2 := Lib.hid (dg_lt Rb.out.dig 0)
    have HO1 := Lib.hid o1
    have hq : (s * 4294967296 + dg a x.1) / dg b 0 < 4294967296 := by
      rw [Nat.div_lt_iff_lt_mul hd.out.1]
      have h5 : (s + 1) * 4294967296 ≤ dg b 0 * 4294967296 := Nat.mul_le_mul_right _ o1
      have := k1.out
      rw [Nat.mul_comm 4294967296 (dg b 0)]
      omega
    obtain ⟨X, hX⟩ : ∃ X, (s * 4294967296 + dg a x.1) / dg b 0 = X := ⟨_, rfl⟩
    obtain ⟨Y, hY⟩ : ∃ Y, (s * 4294967296 + dg a x.1) % dg b 0 = Y := ⟨_, rfl⟩
    have hdiv : ∀ W, Calls Try.prog 107 #[.int .u32 (s : Nat), .int .u32 (dg a x.1 : Nat), .int .u32 (dg b 0 : Nat)] W fun e w' => e = .returned (.tuple #[.int .u32 (X : Nat), .int .u32 (Y : Nat)]) ∧ W.drew = w' := fun W => by
      rw [← hX, ← hY]
      exact Div32_any s (dg a x.1) (dg b 0) W k1.out k2.out HO1.out rfl rfl rfl
    rw [hX, hY] at hsn
    rw [hX] at hq
    clear hX hY
    have hcell := g6.cell (i := x.1) (by rw [o3]; exact x.2)
    have hfr := g6.frozen x.1
    have HBS := Lib.hid (g6.set x.1 hq)
    have hxl : (x.1 : Int) < a.length := by have := x.2; omega
    have hxl2 : x.1 < a.length := x.2
    have hmix : Try.prog.follows .mixedOrders = true := by kernel_rfl
    clear o1 o2 hq
    gi_wp2_with fail
    have hS0 : (fun w' : World => w'.cell? ⟨w.heap.size, 0, none⟩ = some (.slice (some ⟨ba, oa, none⟩) a.length ca) ∧ w'.cell? ⟨w.heap.size + 1, 0, none⟩ = some (.slice (some ⟨bb, ob, none⟩) 1 cb) ∧ w'.cell? ⟨w1.heap.size + 1, 0, none⟩ = some (.slice (some ⟨w1.heap.size, 0, none⟩) a.length a.length) ∧
      w'.cell? ⟨ba, oa + x.1, none⟩ = some (.int .u32 (dg a x.1 : Nat)) ∧ w'.cell? ⟨bb, ob, none⟩ = some (.int .u32 (dg b 0 : Nat))) W.drew := ⟨g1, g2, g3, hca, hcb⟩
    refine wpIn_region_any hmix (any_round conv convR (fun _ => by omega) hfn (by kernel_rfl) (fun ⟨_, _, h⟩ => h) _ _ _ _ (wpAny_of_held (S := fun w' : World => w'.cell? ⟨w.heap.size, 0, none⟩ = some (.slice (some ⟨ba, oa, none⟩) a.length ca) ∧ w'.cell? ⟨w.heap.size + 1, 0, none⟩ = some (.slice (some ⟨bb, ob, none⟩) 1 cb) ∧ w'.cell? ⟨w1.heap.size + 1, 0, none⟩ = some (.slice (some ⟨w1.heap.size, 0, none⟩) a.length a.length) ∧
      w'.cell? ⟨ba, oa + x.1, none⟩ = some (.int .u32 (dg a x.1 : Nat)) ∧ w'.cell? ⟨bb, ob, none⟩ = some (.int .u32 (dg b 0 : Nat))) _ _ _ _ ?_))
    refine wpAnyH_take (i := 0) (oi := _) (v := ?_) rfl (by kernel_rfl) (by kernel_rfl) (by kernel_rfl) (fun _ _ _ h => h) (Or.inl ⟨by rfl, ?_⟩) (by assumption) ?_
    rotate_left
    · intro w hSw; (try dsimp only at hSw); go_simp <;> with_reducible rfl
    try simp only [Act.put, List.setIfInBounds_toArray]
    refine wpAnyH_take (i := 1) (oi := _) (v := ?_) rfl (by kernel_rfl) (by kernel_rfl) (by kernel_rfl) (fun _ _ _ h => h) (Or.inl ⟨by rfl, ?_⟩) (by assumption) ?_
    rotate_left
    · intro w hSw; (try dsimp only at hSw); go_simp <;> with_reducible rfl
    try simp only [Act.put]
    refine wpAnyH_take (i := 3) (oi := _) (v := ?_) rfl (by kernel_rfl) (by kernel_rfl) (by kernel_rfl) (fun _ _ _ h => h) (Or.inl ⟨by rfl, ?_⟩) (by assumption) ?_
    rotate_left
    · intro w hSw; (try dsimp only at hSw); go_simp <;> with_reducible rfl
    try simp only [Act.put]
    refine wpAnyH_take (i := 4) (oi := _) (v := ?_) rfl (by kernel_rfl) (by kernel_rfl) (by kernel_rfl) (fun _ _ _ h => h) (Or.inl ⟨by rfl, ?_⟩) (by assumption) ?_
    rotate_left
    · intro w hSw; (try dsimp only at hSw); go_simp <;> with_reducible rfl
    try simp only [Act.put]
    refine wpAnyH_take (i := 5) (oi := _) (v := ?_) rfl (by kernel_rfl) (by kernel_rfl) (by kernel_rfl) (fun _ _ _ h => h) (Or.inl ⟨by rfl, ?_⟩) (by assumption) ?_
    rotate_left
    · intro w hSw; (try dsimp only at hSw); go_simp <;> with_reducible rfl
    try simp only [Act.put]
    refine wpAnyH_take (i := 6) (oi := _) (v := ?_) rfl (by kernel_rfl) (by kernel_rfl) (by kernel_rfl) (fun _ _ _ h => h) (Or.inl ⟨by rfl, ?_⟩) (by assumption) ?_
    rotate_left
    · intro w hSw; (try dsimp only at hSw); go_simp <;> with_reducible rfl
    try simp only [Act.put]
    refine wpAnyH_take (i := 7) (oi := _) (v := ?_) rfl (by kernel_rfl) (by kernel_rfl) (by kernel_rfl) (fun _ _ _ h => h) (Or.inl ⟨by rfl, ?_⟩) (by assumption) ?_
    rotate_left
    · intro w hSw; (try dsimp only at hSw); go_simp <;> with_reducible rfl
    try simp only [Act.put]
    refine wpAnyH_take (i := 8) (oi := _) (v := ?_) rfl (by kernel_rfl) (by kernel_rfl) (by kernel_rfl) (fun _ _ _ h => h) (Or.inl ⟨by rfl, ?_⟩) (by assumption) ?_
    rotate_left
    · intro w hSw; (try dsimp only at hSw); go_simp <;> with_reducible rfl
    try simp only [Act.put]
    refine wpAnyH_take (i := 9) (oi := _) (v := ?_) rfl (by kernel_rfl) (by kernel_rfl) (by kernel_rfl) (fun _ _ _ h => h) (Or.inl ⟨by rfl, ?_⟩) (by assumption) ?_
    rotate_left
    · intro w hSw; (try dsimp only at hSw); go_simp <;> with_reducible rfl
    try simp only [Act.put]
    refine wpAnyH_ready (rs := [2]) (by kernel_rfl) (by simp) ?_
    refine AllReadyH.cons (o := _) rfl (fun K hK => ?_) AllReadyH.nil
    go_simp
    refine hK.out _ _ hS0 (fun hHeld => ?_)
    clear hK K
    try simp only [Act.put, List.setIfInBounds_toArray, List.set_cons_zero, List.set_cons_succ]
    refine wpAnyH_ready (rs := [10]) (by kernel_rfl) (by simp) ?_
    refine AllReadyH.cons (o := _) rfl (fun K hK => ?_) AllReadyH.nil
    go_simp
    refine (hdiv _).mono ?_
    rintro e w' ⟨rfl, rfl⟩
    dsimp only
    refine hK.out _ _ hS0 (fun hHeld => ?_)
    clear hK K
    try simp only [Act.put, List.setIfInBounds_toArray, List.set_cons_zero, List.set_cons_succ]
    refine wpAnyH_take (i := 11) (oi := _) (v := ?_) rfl (by kernel_rfl) (by kernel_rfl) (by kernel_rfl) (fun _ _ _ h => h) (Or.inl ⟨by rfl, ?_⟩) (by assumption) ?_
    rotate_left
    · intro w hSw; (try dsimp only at hSw); go_simp <;> with_reducible rfl
    try simp only [Act.put, List.setIfInBounds_toArray]
    refine wpAnyH_take (i := 12) (oi := _) (v := ?_) rfl (by kernel_rfl) (by kernel_rfl) (by kernel_rfl) (fun _ _ _ h => h) (Or.inl ⟨by rfl, ?_⟩) (by assumption) ?_
    rotate_left
    · intro w hSw; (try dsimp only at hSw); go_simp <;> with_reducible rfl
    try simp only [Act.put]
    refine wpAnyH_take (i := 13) (oi := _) (v := ?_) rfl (by kernel_rfl) (by kernel_rfl) (by kernel_rfl) (fun _ _ _ h => h) (Or.inl ⟨by rfl, ?_⟩) (by assumption) ?_
    rotate_left
    · intro w hSw; (try dsimp only at hSw); go_simp <;> with_reducible rfl
    try simp only [Act.put]
    refine wpAnyH_take (i := 14) (oi := _) (v := ?_) rfl (by kernel_rfl) (by kernel_rfl) (by kernel_rfl) (fun _ _ _ h => h) (Or.inl ⟨by rfl, ?_⟩) (by assumption) ?_
    rotate_left
    · intro w hSw; (try dsimp only at hSw); go_simp <;> with_reducible rfl
    try simp only [Act.put]
    refine wpAnyH_ready (rs := [15]) (by kernel_rfl) (by simp) ?_
    refine AllReadyH.cons (o := _) rfl (fun K hK => ?_) AllReadyH.nil
    go_simp
    have n1 : ba ≠ w1.heap.size := by omega
    have n2 : bb ≠ w1.heap.size := by omega
    have n1' : ba ≠ w1.heap.size + 1 + 1 := by omega
    have n2' : bb ≠ w1.heap.size + 1 + 1 := by omega
    have r4 : (W.setCell ⟨w1.heap.size, x.1, none⟩ (.int .u32 (X : Nat))).cell? ⟨w1.heap.size + 1 + 1, 0, none⟩ = some (.int .u32 (s : Nat)) := cell_far (by simp <;> omega) g4
    have r5 : (W.setCell ⟨w1.heap.size, x.1, none⟩ (.int .u32 (X : Nat))).frozen? ⟨w1.heap.size + 1 + 1, 0, none⟩ = false := frozen_far (by simp <;> omega) g5
    refine hK.out _ _ ⟨cell_far (by simp <;> omega) g1, cell_far (by simp <;> omega) g2, cell_far (by simp <;> omega) g3, cell_far n1 hca, cell_far n2 hcb⟩ (fun hHeld => ?_)
    clear hK K
    try simp only [Act.put, List.setIfInBounds_toArray, List.set_cons_zero, List.set_cons_succ]
    refine wpAnyH_ready (rs := [16]) (by kernel_rfl) (by simp) ?_
    refine AllReadyH.cons (o := _) rfl (fun K hK => ?_) AllReadyH.nil
    go_simp
    refine hK.out _ _ ⟨cell_far (by simp <;> omega) (cell_far (by simp <;> omega) g1), cell_far (by simp <;> omega) (cell_far (by simp <;> omega) g2), cell_far (by simp <;> omega) (cell_far (by simp <;> omega) g3), cell_far n1' (cell_far n1 hca), cell_far n2' (cell_far n2 hcb)⟩ (fun hHeld => ?_)
    clear hK K
    refine wpAnyH_done (by kernel_rfl) ?_ _
    have kf := ((KeepsOthers.setCell W ⟨w1.heap.size, x.1, none⟩ (.int .u32 (X : Nat))).from WS.heap.size).trans ((KeepsOthers.setCell (W.setCell ⟨w1.heap.size, x.1, none⟩ (.int .u32 (X : Nat))) ⟨w1.heap.size + 1 + 1, 0, none⟩ (.int .u32 (Y : Nat))).from WS.heap.size)
    have kw : Below w.heap.size W ((W.setCell ⟨w1.heap.size, x.1, none⟩ (.int .u32 (X : Nat))).setCell ⟨w1.heap.size + 1 + 1, 0, none⟩ (.int .u32 (Y : Nat))) := ((Below.refl _ _).setCell (p := ⟨w1.heap.size, x.1, none⟩) (by show w.heap.size ≤ w1.heap.size; omega) _).setCell (p := ⟨w1.heap.size + 1 + 1, 0, none⟩) (by show w.heap.size ≤ w1.heap.size + 1 + 1; omega) _
    refine ⟨⟨kf.1, kf.2⟩, ⟨kw.drew.drew, ?_⟩, ⟨?_, ?_, ?_, ?_, ?_, ?_⟩, (hB.trans kw).drew.drew⟩
    · exact (Below.heap_setCell _ ⟨w1.heap.size + 1 + 1, 0, none⟩ _ _ (by simp)).trans (Below.heap_setCell _ ⟨w1.heap.size, x.1, none⟩ _ _ (by simp <;> omega))
    · exact cell_far (by simp <;> omega) (cell_far (by simp <;> omega) g1)
    · exact cell_far (by simp <;> omega) (cell_far (by simp <;> omega) g2)
    · exact cell_far (by simp <;> omega) (cell_far (by simp <;> omega) g3)
    · rw [hsn.out]
      exact World.cell?_setCell_same' _ _ _ (by rw [r4]; rfl)
    · exact (World.frozen?_setCell ..).trans r5
    · rw [hsn.out]
      exact HBS.out.far (p := ⟨w1.heap.size + 1 + 1, 0, none⟩) (by simp <;> omega) _
  case done =>
    rintro D ys W hD hys ⟨⟨g1, g2, g3, g4, g5, g6⟩, hB⟩ hK
    obtain ⟨o1, o2, o3⟩ := dvS_ok (a := a) Ra.out.dig hd.out.1 (ys.map Fin.val)
    have hfin := dvS_fin (a := a) Ra.out.dig hd.out.1
    rw [← hys] at hfin
    generalize dvS a (dg b 0) (ys.map Fin.val) = sq at *
    obtain ⟨s, q⟩ := sq
    dsimp only at o1 o2 o3 hfin g4 g6
    have HFIN := Lib.hid hfin
    have hs32 : s < 4294967296 := Nat.lt_trans o1 (dg_lt Rb.out.dig 0)
    have HQ := Lib.hid (g6.nf (B := w.heap.size) (c := a.length) (by omega) (by omega) (by omega) (by omega))
    have HS1 := Lib.hid hs32
    have HL := Lib.hid o3
    have H6 := Lib.hid g6
    clear hfin hs32 o1 o2 o3 g6 hys
    have T1 : Hid (∀ W', NR W' (some ⟨w1.heap.size, 0, none⟩) a.length q → CallsIn F 3 Try.prog 85 #[.slice (some ⟨w1.heap.size, 0, none⟩) a.length a.length] W' fun e w' => e = .returned (.slice (some ⟨w1.heap.size, 0, none⟩) (digs (val q)).length a.length) ∧ W' = w') := fun W' h => conv _ _ _ _ _ (trim_any _ a.length q W' HL.out h)
    have T2 : Hid (∀ W' A', NR W' A' 1 [s] → CallsIn F 3 Try.prog 85 #[.slice A' 1 1] W' fun e w' => e = .returned (.slice A' (digs (val [s])).length 1) ∧ W' = w') := fun W' A' h => conv _ _ _ _ _ (trim_any A' 1 [s] W' rfl h)
    have g3a : ∀ u, (W.alloc (.cells #[u] 85)).cell? ⟨w1.heap.size + 1, 0, none⟩ = some (.slice (some ⟨w1.heap.size, 0, none⟩) a.length a.length) := fun u => (World.cell?_of_block (a := ⟨w1.heap.size + 1, 0, none⟩) (Below.heap_alloc W _ _ (World.block_lt_of_cell? W _ g3))).trans g3
    have g3b : ∀ u, (W.drew.alloc (.cells #[u] 85)).cell? ⟨w1.heap.size + 1, 0, none⟩ = some (.slice (some ⟨w1.heap.size, 0, none⟩) a.length a.length) := g3a
    gi_wp2_with fail
    gi_region_with (first | (gi_at_call 85; (with_reducible refine (T1.out _ ?_).mono ?_); (first | exact HQ.out.1.drew | exact HQ.out.1.drew.alloc _); rintro e w' ⟨rfl, rfl⟩) | (gi_at_call 85; (with_reducible refine (T2.out _ _ ?_).mono ?_); exact ((BlkN.lit1 _ s HS1.out).nf (B := 0) (Nat.zero_le _) (by simp) (by simp) (by simp)).1; rintro e w' ⟨rfl, rfl⟩))
    all_goals
      gi_wp2_with fail
      have hD2 : D < W.heap.size := (Array.getElem?_eq_some_iff.1 hK).1
      have hK' := (Below.heap_alloc W.drew (.cells #[.int .u32 (s : Nat)] 85) D hD2).trans hK
      have kq := blk_kept ((H6.out.drew).alloc (.cells #[.int .u32 (s : Nat)] 85)) (grownBy_putObj' _ D (.deferred none)) (fun r e => by cases e; exact ⟨_, hK', rfl⟩)
      have ks := blk_kept (BlkN.lit1 W.drew s HS1.out) (grownBy_putObj' _ D (.deferred none)) (fun r e => by cases e; exact ⟨_, hK', rfl⟩)
      have nq := kq.nf (B := w.heap.size) (c := a.length) (by omega) (by have := HL.out; omega) (by omega) (by have := HL.out; omega)
      have ns := ks.nf (B := w.heap.size) (c := 1) (by have := hB.size; exact this) (by simp) (by simp) (by simp)
      have nq2 := nq.trim
      have ns2 := ns.trim
      have vs : val [s] = val a % val b := by rw [hd.out.2, ← HFIN.out.1]; simp [val]
      have vq : val q = val a / val b := by rw [hd.out.2, HFIN.out.2]
      rw [vs] at ns2
      rw [vq] at nq2
      have hbelF : Below w.heap.size w ((W.drew.alloc (.cells #[.int .u32 (s : Nat)] 85)).putObj D (.deferred none)) := ((hB.drew).alloc (by exact hB.size) _).trans (belowK_b (w := w) (Nat.le_refl _) _ D _ _ (by have := hB0.size; omega) hK' rfl rfl)
      have HVQ := Lib.hid vq
      have HVS := Lib.hid vs
      have hlt1 : w1.heap.size < W.heap.size := H6.out.lt
      clear vq vs nq ns kq ks
      refine ⟨by simp, .inl ⟨_, _, rfl, run_takeDeferred hK', ?_⟩⟩
      refine ⟨.tuple #[.slice (some ⟨w1.heap.size, 0, none⟩) (digs (val q)).length a.length, .slice (some ⟨W.heap.size, 0, none⟩) (digs (val [s])).length 1], ?_, some ⟨w1.heap.size, 0, none⟩, a.length, some ⟨W.heap.size, 0, none⟩, 1, tuple_two (by rw [HVQ.out]) (by rw [HVS.out]), nq2, ns2, ?_, hbelF⟩
      · simp [results, Try.f75, go_sem]
      · intro n1 n2 g o h p e1 e2
        injection e1 with e1
        injection e1 with e1
        injection e2 with e2
        injection e2 with e2
        omega
  case stop =>
    rintro D c pre W hD hp h hK
    exact h.elim
end Go.Proofs.Ytphaojdfeojpeaa
