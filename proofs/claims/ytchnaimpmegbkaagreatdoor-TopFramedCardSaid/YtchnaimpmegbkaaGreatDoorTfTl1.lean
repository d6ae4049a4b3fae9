/-
  Lemmas and contracts, joined.
-/
import Derived.Lib.SmallJoins
import Derived.ChangeSame
import Derived.Test.YtchnaimpmegbkaaGreatDoorTfTn4
import Derived.Test.YtchnaimpmegbkaaGreatDoorTfTh1
import Derived.Test.YtchnaimpmegbkaaGreatDoorTfTw1
import Derived.Test.YtchnaimpmegbkaaGreatDoorTfTn1
set_option linter.unusedSimpArgs false
set_option linter.unusedVariables false
set_option linter.unnecessarySimpa false
/- Rows of numbers in memory. -/
namespace Go.Proofs.YtchnaimpmegbkaaGreatDoor
open Go.RowKit
set_option linter.unusedVariables false
set_option linter.unusedSimpArgs false

structure NRow where
  A : Option Addr
  c : Nat
  l : List Nat
def NRow.v (r : NRow) : Value := .slice r.A r.l.length r.c
instance : Inhabited NRow := ⟨⟨none, 0, []⟩⟩
/-- A slice that reads as rows of digits. -/
def RNat (w : World) (A : Option Addr) (c : Nat) (rs : List NRow) : Prop := Rd w 1 A c rs.length (rs.map NRow.v) ∧ ∀ r ∈ rs, NR w r.A r.c r.l
theorem RNat.below {w w' : World} {A : Option Addr} {c : Nat} {rs : List NRow} (h : RNat w A c rs) (hb : Below w.heap.size w w') : RNat w' A c rs := ⟨h.1.below hb, fun r hr => (h.2 r hr).below hb⟩
theorem RNat.at_ {w : World} {A : Option Addr} {c : Nat} {rs : List NRow} (h : RNat w A c rs) {i : Nat} (hi : i < rs.length) :
    ∃ b off r, A = some ⟨b, off, none⟩ ∧ b < w.heap.size ∧ rs[i]? = some r ∧ w.cell? ⟨b, off + i, none⟩ = some (.slice r.A r.l.length r.c) ∧ NR w r.A r.c r.l := by
  obtain ⟨b, off, e, hb, v, hv, hc⟩ := Rd.at1 h.1 hi
  have hr : rs[i]? = some rs[i] := List.getElem?_eq_getElem hi
  rw [List.getElem?_map, hr] at hv
  injection hv with hv
  subst hv
  exact ⟨b, off, rs[i], e, hb, hr, hc, h.2 _ (List.getElem_mem hi)⟩
/-- The rows that the call owns, none of their digits in the rows' own block. -/
def ONat (B : Nat) (w : World) (A : Option Addr) (c : Nat) (rs : List NRow) : Prop := w.ownsRow B 25 1 (.slice A rs.length c) rs.length (rs.map NRow.v)
def AptN (v : Value) (r : NRow) : Prop := r.l ≠ [] → ∀ b off, r.A = some ⟨b, off, none⟩ → v.ownBlock ≠ some b
/-- The digits lie from block B on. -/
def FromB (B : Nat) (r : NRow) : Prop := r.l ≠ [] → ∀ b off, r.A = some ⟨b, off, none⟩ → B ≤ b
theorem NF.fromB {B B' : Nat} {w : World} {A : Option Addr} {c : Nat} {l : List Nat} (h : NF B w A c l) (hB : B' ≤ B) : FromB B' ⟨A, c, l⟩ := fun hl b off e => by
  obtain ⟨b2, o2, e2, h2, _⟩ := h.2 hl
  simp only at e
  rw [e] at e2
  injection e2 with e2
  injection e2 with e2
  omega
def RowsN (B : Nat) (w : World) (A : Option Addr) (c : Nat) (rs : List NRow) : Prop := ONat B w A c rs ∧ ∀ r ∈ rs, (NR w r.A r.c r.l ∧ FromB B r) ∧ AptN (.slice A rs.length c) r
theorem nats_info : (Tryz.prog.info? 25).map (fun i => (i.zero, i.size, i.bytes)) = some (some (.slice none 0 0), 1, 24) := by kernel_rfl
theorem NR.grown_ {w w' : World} {A : Option Addr} {c : Nat} {l : List Nat} {row : Option Nat} (h : NR w A c l) (hne : l ≠ [] → ∀ b off, A = some ⟨b, off, none⟩ → row ≠ some b) (hg : w.grownBy w' row) : NR w' A c l :=
  ⟨h.1, h.2.1, h.2.2.1, fun hn => by
    obtain ⟨b, off, e, hb, hc⟩ := h.2.2.2 hn
    have hne' := hne hn b off e
    exact ⟨b, off, e, Nat.lt_of_lt_of_le hb hg.size, fun i hi => (World.cell?_of_block (hg.block b hb (fun e => hne' e.symm))).trans (hc i hi)⟩⟩
theorem RowsN.below {B : Nat} {w w' : World} {A : Option Addr} {c : Nat} {rs : List NRow} (h : RowsN B w A c rs) (hb : Below w.heap.size w w') : RowsN B w' A c rs := ⟨ownsRow_below h.1 hb, fun r hr => ⟨⟨(h.2 r hr).1.1.below hb, (h.2 r hr).1.2⟩, (h.2 r hr).2⟩⟩
theorem RowsN.read {B : Nat} {w : World} {A : Option Addr} {c : Nat} {rs : List NRow} (h : RowsN B w A c rs) (hl : rs.length ≤ 100000) : RNat w A c rs := ⟨Rd.of_own h.1 (by omega), fun r hr => (h.2 r hr).1.1⟩
theorem RowsN.lt {B : Nat} {w : World} {A : Option Addr} {c : Nat} {rs : List NRow} (h : RowsN B w A c rs) {b : Nat} (hb : (Value.slice A rs.length c).ownBlock = some b) : b < w.heap.size ∧ B ≤ b := by
  have := h.1.lt b hb
  exact ⟨by omega, by omega⟩
theorem NF.apt {B B' : Nat} {w w' : World} {A A' : Option Addr} {c c' : Nat} {rs : List NRow} {l : List Nat} (h : RowsN B w A c rs) (hq : NF B' w' A' c' l) (hB : w.heap.size ≤ B') : AptN (.slice A rs.length c) ⟨A', c', l⟩ := fun hl b off e hb => by
  obtain ⟨b2, o2, e2, h2, _⟩ := hq.2 hl
  have := (h.lt hb).1
  simp only at e
  rw [e] at e2
  injection e2 with e2
  injection e2 with e2
  omega
theorem NR.blk_lt {w : World} {A : Option Addr} {c : Nat} {l : List Nat} (h : NR w A c l) (hl : l ≠ []) {b off : Nat} (e : A = some ⟨b, off, none⟩) : b < w.heap.size := by
  obtain ⟨b2, o2, e2, h2, _⟩ := h.2.2.2 hl
  rw [e] at e2
  injection e2 with e2
  injection e2 with e2
  omega
/-- One more row. -/
theorem RowsN.snoc {B : Nat} {w w' : World} {A A' : Option Addr} {c c' : Nat} {rs : List NRow} {r : NRow} (h : RowsN B w A c rs) (hr : NR w r.A r.c r.l) (hf : FromB B r) (ha : AptN (.slice A rs.length c) r) (ho : ONat B w' A' c' (rs ++ [r])) (hg : w.grownBy w' (Value.ownBlock (.slice A rs.length c)))
    (hloc : Value.ownBlock (.slice A' (rs ++ [r]).length c') = Value.ownBlock (.slice A rs.length c) ∨ Value.ownBlock (.slice A' (rs ++ [r]).length c') = some w.heap.size) : RowsN B w' A' c' (rs ++ [r]) := by
  refine ⟨ho, fun x hx => ?_⟩
  obtain ⟨⟨x1, x3⟩, x2⟩ : (NR w x.A x.c x.l ∧ FromB B x) ∧ AptN (.slice A rs.length c) x := by
    rcases List.mem_append.1 hx with hx | hx
    · exact h.2 x hx
    · rw [List.mem_singleton.1 hx]; exact ⟨⟨hr, hf⟩, ha⟩
  refine ⟨⟨x1.grown_ x2 hg, x3⟩, fun hl b off e hb => ?_⟩
  rcases hloc with h1 | h1
  · rw [h1] at hb; exact x2 hl b off e hb
  · rw [h1] at hb
    injection hb with hb
    have := x1.blk_lt hl e
    omega
/-- A literal of one row. -/
theorem RowsN.one {B : Nat} (w : World) (r : NRow) (hr : NR w r.A r.c r.l) (hf : FromB B r) (hB : B ≤ w.heap.size) : RowsN B (w.alloc (.cells #[r.v] 25)) (some ⟨w.heap.size, 0, none⟩) 1 [r] := by
  refine ⟨World.ownsRow_lit (e := 25) (size := 1) w #[r.v] 1 hB (by simp [maxLen]) (by simp), fun x hx => ?_⟩
  rw [List.mem_singleton.1 hx]
  refine ⟨⟨hr.alloc _, hf⟩, fun hl b off e hb => ?_⟩
  have := hr.blk_lt hl e
  have : w.heap.size = b := by simpa [Value.ownBlock] using hb
  omega
theorem wpList_append_natrow (w : World) {ops : Array Oper} {rest : List Oper} {o : Oper} {a : Act} {Q : Exit → Act → World → Prop} (hgd : o.guard = none) (s x : Operand)
    (ho : o.op = .call { callee := .builtin .append, args := #[s, x], argTypes := #[106, 106] })
    (B : Nat) (A : Option Addr) (n c : Nat) (rs : List NRow) (hn : rs.length = n) (hs : a.eval s = .slice A n c) (hown : ONat B w A c rs)
    (r : NRow) (X : Option Addr) (d : Nat) (hx : a.eval x = .slice X 1 d) (hsrc : Src w 1 X 1 [r.v])
    (hlen : (n + 1) * 24 ≤ 140737488355328) (hB : B ≤ w.heap.size)
    (h : ∀ A' c' w', ONat B w' A' c' (rs ++ [r]) → Below B w w' → w.grownBy w' (Value.ownBlock (.slice A n c)) → (Value.ownBlock (.slice A' (rs ++ [r]).length c') = Value.ownBlock (.slice A n c) ∨ Value.ownBlock (.slice A' (rs ++ [r]).length c') = some w.heap.size) → wpList Tryz.prog ops Q rest (a.put o.dst (.slice A' (n + 1) c')) w') : wpList Tryz.prog ops Q (o :: rest) a w := by
  obtain ⟨i0, hi, hz0, hz1, hz2⟩ := info_parts nats_info
  subst hn
  refine wpList_append_src w hgd s x 106 ho B 25 i0 (.slice none 0 0) 1 24 Tryz.underlying106 hi hz0 hz1 hz2 rfl (by omega) A rs.length c (rs.map NRow.v) hs hown X 1 d [r.v] hx hsrc (by intro u hu; rw [List.mem_singleton.1 hu]; rfl)
    (by simp only [maxLen]; omega) hlen hB ?_
  intro A' c' w' h1 h2 h3
  have e : (rs ++ [r]).length = rs.length + 1 := by simp
  refine h A' c' w' ?_ (grown_below (Below.refl _ _) hown h2 hB (Nat.le_refl _)) h2 (by rw [e]; exact h3)
  unfold ONat
  rw [List.map_append, e]
  exact h1
end Go.Proofs.YtchnaimpmegbkaaGreatDoor

/- Rows of numbers of choices: the program. -/
namespace Go.Proofs.YtchnaimpmegbkaaGreatDoor
open Go.RowKit
set_option linter.unusedVariables false
set_option linter.unusedSimpArgs false

theorem divF_any {x y : Nat} {A Bd : Option Addr} {ca cb la lb : Nat} {w : World} (hx : Sm x) (hy : Sm y) (h0 : y ≠ 0) (hla : (digs x).length = la) (hlb : (digs y).length = lb) (ha : NR w A ca (digs x)) (hb : NR w Bd cb (digs y)) :
    Calls Tryz.prog 106 #[.slice A la ca, .slice Bd lb cb] w fun e w' => (∃ A' c' B' d' lr, e = .returned (.tuple #[.slice A' (digs (x / y)).length c', .slice B' lr d', .int .i64 0]) ∧ NF w.heap.size w' A' c' (digs (x / y))) ∧ Below w.heap.size w w' := by
  refine (Div_any A ca (digs x) Bd cb (digs y) w hla hlb ha hb).mono fun e w' h => ?_
  have e1 : divS (digs x) (digs y) = (digs (x / y), digs (x % y), 0) := by rw [divS, if_pos (hx.two hy), if_neg (digs_ne h0), val_digs, val_digs]
  rw [e1] at h
  obtain ⟨A', c', B', d', he, hf, _, _, hbl⟩ := h
  exact ⟨⟨A', c', B', d', _, he, hf⟩, hbl⟩
theorem must_any (A : Option Addr) (n c : Nat) (x : Int) (w : World) : Calls Tryz.prog 51 #[.slice A n c, .int .i64 x] w fun e w' => e = .returned (.slice A n c) ∧ Below w.heap.size w w' := by
  go_enter Tryz.func51, Tryz.ntmps51
  go_wp2_with fail
  go_ret
  exact ⟨rfl, Below.refl _ _⟩
theorem ofF_any (n : Nat) (w : World) (h : n ≤ 1000000) :
    Calls Tryz.prog 23 #[.int .u64 (n : Int)] w fun e w' => (∃ A c, e = .returned (.slice A (digs n).length c) ∧ NF w.heap.size w' A c (digs n)) ∧ Below w.heap.size w w' := by
  refine (Of_any n w (by omega)).mono fun e w' h => ?_
  obtain ⟨A', c', he, hf, hbl⟩ := h
  exact ⟨⟨A', c', he, hf⟩, hbl⟩
theorem one_any (w : World) : Calls Tryz.prog 105 #[] w fun e w' => (∃ A c, e = .returned (.slice A (digs 1).length c) ∧ NF w.heap.size w' A c (digs 1)) ∧ Below w.heap.size w w' := by
  have HO : Hid (∀ W, Calls Tryz.prog 23 #[.int .u64 1] W fun e w' => (∃ A c, e = .returned (.slice A (digs 1).length c) ∧ NF W.heap.size w' A c (digs 1)) ∧ Below W.heap.size W w') := fun W => ofF_any 1 W (by omega)
  generalize digs 1 = d at HO
  generalize hl : d.length = l at HO ⊢
  go_enter Tryz.func105, Tryz.ntmps105
  go_wp2_with (go_at_call 23; (with_reducible refine (HO.out _).mono ?_); rintro e w1 ⟨⟨A, c, rfl, hr⟩, hb⟩)
  go_ret
  exact ⟨⟨A, c, rfl, hr⟩, hb⟩
/-- The row of the choices of a things, from block B on. -/
def BinR (B : Nat) (w : World) (A : Option Addr) (c a : Nat) : Prop := ∃ rs : List NRow, (RNat w A c rs ∧ rs.length = a + 1 ∧ ∀ i, i ≤ a → ∃ r, rs[i]? = some r ∧ r.l = digs (bin a i)) ∧ (∀ b off, A = some ⟨b, off, none⟩ → B ≤ b) ∧ ∀ r ∈ rs, FromB B r
theorem BinR.below {B : Nat} {w w' : World} {A : Option Addr} {c a : Nat} (h : BinR B w A c a) (hb : Below w.heap.size w w') : BinR B w' A c a := by obtain ⟨rs, ⟨h1, h2, h3⟩, h4⟩ := h; exact ⟨rs, ⟨h1.below hb, h2, h3⟩, h4⟩
theorem BinR.mono {B B' : Nat} {w : World} {A : Option Addr} {c a : Nat} (h : BinR B w A c a) (hB : B' ≤ B) : BinR B' w A c a := by
  obtain ⟨rs, h1, h2, h3⟩ := h
  exact ⟨rs, h1, fun b off e => Nat.le_trans hB (h2 b off e), fun r hr hl b off e => Nat.le_trans hB (h3 r hr hl b off e)⟩
theorem BinR.far {B : Nat} {w w' : World} {A : Option Addr} {c a : Nat} (h : BinR B w A c a) (hs : w.heap.size ≤ w'.heap.size) (hk : ∀ p : Addr, B ≤ p.block → w'.cell? p = w.cell? p) : BinR B w' A c a := by
  obtain ⟨rs, ⟨h1, h2, h3⟩, h4, h5⟩ := h
  refine ⟨rs, ⟨⟨⟨h1.1.1, fun hn => ?_⟩, fun r hr => ?_⟩, h2, h3⟩, h4, h5⟩
  · obtain ⟨b, off, e, hb, hc⟩ := h1.1.2 hn
    exact ⟨b, off, e, by omega, fun j v hv => (hk _ (h4 b off e)).trans (hc j v hv)⟩
  · have hr1 := h1.2 r hr
    refine ⟨hr1.1, hr1.2.1, hr1.2.2.1, fun hn => ?_⟩
    obtain ⟨b, off, e, hb, hc⟩ := hr1.2.2.2 hn
    exact ⟨b, off, e, by omega, fun i hi => (hk _ (h5 r hr hn b off e)).trans (hc i hi)⟩
theorem BinR.at_ {B : Nat} {w : World} {A : Option Addr} {c a : Nat} (h : BinR B w A c a) {i : Nat} (hi : i ≤ a) : ∃ b off X x, A = some ⟨b, off, none⟩ ∧ b < w.heap.size ∧ w.cell? ⟨b, off + i, none⟩ = some (.slice X (digs (bin a i)).length x) ∧ NR w X x (digs (bin a i)) := by
  obtain ⟨rs, ⟨h1, h2, h3⟩, _⟩ := h
  obtain ⟨b, off, r, e, hb, hr, hc, hn⟩ := h1.at_ (i := i) (by omega)
  obtain ⟨r', hr', hl⟩ := h3 i hi
  rw [hr] at hr'
  injection hr' with hr'
  subst hr'
  rw [hl] at hc hn
  exact ⟨b, off, r.A, r.c, e, hb, hc, hn⟩
theorem RowsN.bin {B : Nat} {w : World} {A : Option Addr} {c a : Nat} {rs : List NRow} (h : RowsN B w A c rs) (hl : rs.length = a + 1) (ha : a ≤ 1000) (hr : ∀ i, i ≤ a → ∃ r, rs[i]? = some r ∧ r.l = digs (bin a i)) : BinR B w A c a :=
  ⟨rs, ⟨h.read (by omega), hl, hr⟩, fun b off e => (h.lt (b := b) (by rw [e]; rfl)).2, fun r hr => (h.2 r hr).1.2⟩
theorem RNat.cap {w : World} {A : Option Addr} {c : Nat} {rs : List NRow} (h : RNat w A c rs) : rs.length ≤ c ∧ c ≤ 9223372036854775807 := ⟨h.1.le, h.1.cap⟩

set_option maxHeartbeats 4000000 in
set_option maxRecDepth 100000 in
theorem rowOf_any (a : Nat) (w : World) (ha : a ≤ 128) :
    Calls Tryz.prog 80 #[.int .i64 (a : Int)] w fun e w' => (∃ A c, e = .returned (.slice A (a + 1) c) ∧ BinR w.heap.size w' A c a) ∧ Below w.heap.size w w' := by
  have hai : (a : Int) ≤ 128 := by omega
  have HO1 : Hid (∀ W, Calls Tryz.prog 105 #[] W fun e w' => (∃ A c, e = .returned (.slice A (digs (bin a 0)).length c) ∧ NF W.heap.size w' A c (digs (bin a 0))) ∧ Below W.heap.size W w') := fun W => by rw [bin_zero]; exact one_any W
  generalize hl0 : (digs (bin a 0)).length = l0 at HO1
  have HL0 := Lib.hid hl0
  clear hl0
  go_enter Tryz.func80, Tryz.ntmps80
  go_wp2_with (first
    | (go_at_call 105; (with_reducible refine (HO1.out _).mono ?_); rintro e w1 ⟨⟨A1, c1, rfl, hr1⟩, hb1⟩; have R1 := Lib.hid hr1; have D1 := Lib.hid hb1; clear hr1 hb1))
  have HR0 : Hid (RowsN w.heap.size (w1.alloc (.cells #[.slice A1 l0 c1] 25)) (some ⟨w1.heap.size, 0, none⟩) 1 [⟨A1, c1, digs (bin a 0)⟩]) := by
    have := RowsN.one (B := w.heap.size) w1 ⟨A1, c1, digs (bin a 0)⟩ R1.out.1 (R1.out.fromB (Nat.le_refl _)) D1.out.size
    unfold NRow.v at this
    dsimp only at this
    rwa [HL0.out] at this
  have D2 : Hid (Below w.heap.size w (w1.alloc (.cells #[.slice A1 l0 c1] 25))) := bel_on D1.out (alloc_bel w1 _)
  have HB0 : Hid (∀ i, i ≤ 0 → ∃ r, ([⟨A1, c1, digs (bin a 0)⟩] : List NRow)[i]? = some r ∧ r.l = digs (bin a i)) := fun i hi => by
    obtain rfl : i = 0 := by omega
    exact ⟨_, rfl, rfl⟩
  go_loopw [3, 4] (fun vr vb wr => ∃ (j : Nat) (A : Option Addr) (c : Nat) (rs : List NRow), j ≤ a ∧ vb = .int .i64 ((j : Int) + 1) ∧ vr = .slice A (j + 1) c ∧ Hid (rs.length = j + 1) ∧ Hid (RowsN w.heap.size wr A c rs) ∧ Hid (∀ i, i ≤ j → ∃ r, rs[i]? = some r ∧ r.l = digs (bin a i)) ∧ Below w.heap.size w wr) (fun _ vb _ => a + 1 - (intOf vb).toNat)
  case atStart => exact ⟨0, _, _, [⟨A1, c1, digs (bin a 0)⟩], by omega, rfl, rfl, rfl, HR0.out, HB0.out, D2.out⟩
  case round =>
    obtain ⟨j, A, c, rs, hj, rfl, rfl, HN, HR, HB, hbel⟩ := hrel
    by_cases hlt : j < a
    · have hji : (j : Int) + 1 ≤ a := by omega
      have hj0 : (0 : Int) ≤ j := by omega
      have hjn : (j : Int) < (j : Int) + 1 := by omega
      obtain ⟨bb, off, r, rfl, hbb, hr, hc, hnr⟩ := (HR.out.read (by rw [HN.out]; omega)).at_ (i := j) (by rw [HN.out]; omega)
      obtain ⟨r', hr', hl'⟩ := HB.out j (Nat.le_refl _)
      rw [hr] at hr'
      injection hr' with hr'
      subst hr'
      rw [hl'] at hc hnr
      clear hr hl'
      generalize r.A = X at hc hnr
      generalize r.c = x at hc hnr
      obtain ⟨k, hk⟩ : ∃ k, j + k = a := ⟨a - j, by omega⟩
      obtain ⟨n1, hn1⟩ : ∃ n1, j + 1 = n1 := ⟨_, rfl⟩
      have e0 : IntKind.i64.wrap (j : Int) = (j : Int) := by rw [IntKind.wrap_i64]; omega
      obtain ⟨q, hq⟩ : ∃ q, q + 1 = k := ⟨k - 1, by omega⟩
      have e1 : IntKind.i64.wrap ((a : Int) - ((j : Int) + 1)) = (q : Int) := by rw [IntKind.wrap_i64]; omega
      have e2 : IntKind.i64.wrap ((q : Int) + 1) = (k : Int) := by rw [IntKind.wrap_i64]; omega
      have e3 : IntKind.u64.wrap (k : Int) = (k : Int) := by rw [IntKind.wrap_u64]; omega
      have e4 : IntKind.u64.wrap ((j : Int) + 1) = (n1 : Int) := by rw [IntKind.wrap_u64]; omega
      obtain ⟨lj, hlj⟩ : ∃ l, (digs (bin a j)).length = l := ⟨_, rfl⟩
      obtain ⟨lk, hlk⟩ : ∃ l, (digs k).length = l := ⟨_, rfl⟩
      obtain ⟨ln, hln⟩ : ∃ l, (digs n1).length = l := ⟨_, rfl⟩
      obtain ⟨lp, hlp⟩ : ∃ l, (digs (bin a j * k)).length = l := ⟨_, rfl⟩
      obtain ⟨lq, hlq⟩ : ∃ l, (digs (bin a (j + 1))).length = l := ⟨_, rfl⟩
      rw [hlj] at hc
      have HOK : Hid (∀ W, Calls Tryz.prog 23 #[.int .u64 (k : Int)] W fun e w' => (∃ A c, e = .returned (.slice A lk c) ∧ NR w' A c (digs k)) ∧ Below W.heap.size W w') := fun W => by rw [← hlk]; exact ofD_any k W (by omega)
      have HOJ : Hid (∀ W, Calls Tryz.prog 23 #[.int .u64 (n1 : Int)] W fun e w' => (∃ A c, e = .returned (.slice A ln c) ∧ NR w' A c (digs n1)) ∧ Below W.heap.size W w') := fun W => by rw [← hln]; exact ofD_any n1 W (by omega)
      have HTM : Hid (∀ A' c' B' d' W, NR W A' c' (digs (bin a j)) → NR W B' d' (digs k) → Calls Tryz.prog 83 #[.slice A' lj c', .slice B' lk d'] W fun e w' => (∃ A c, e = .returned (.tuple #[.slice A lp c, .int .i64 0]) ∧ NR w' A c (digs (bin a j * k))) ∧ Below W.heap.size W w') := fun A' c' B' d' W h1 h2 => by rw [← hlp]; exact mulD_any (sm_bin_mul (by omega) (by omega)) (sm_bin (by omega)) (sm_small (by omega)) hlj hlk h1 h2
      have HPT : Hid (∀ A' c' B' d' W, NR W A' c' (digs (bin a j * k)) → NR W B' d' (digs n1) → Calls Tryz.prog 106 #[.slice A' lp c', .slice B' ln d'] W fun e w' => (∃ A c B d lr, e = .returned (.tuple #[.slice A lq c, .slice B lr d, .int .i64 0]) ∧ NF W.heap.size w' A c (digs (bin a (j + 1)))) ∧ Below W.heap.size W w') := fun A' c' B' d' W h1 h2 => by
        have := divF_any (x := bin a j * k) (y := n1) (sm_bin_mul (by omega) (by omega)) (sm_small (by omega)) (by omega) hlp hln h1 h2
        rwa [← hn1, bin_step hk, hlq] at this
      have HMU : Hid (∀ A n c W, Calls Tryz.prog 51 #[.slice A n c, .int .i64 0] W fun e w' => e = .returned (.slice A n c) ∧ Below W.heap.size W w') := fun A n c W => must_any A n c 0 W
      have HLQ := Lib.hid hlq
      have HK1 := Lib.hid hn1
      have HC := Lib.hid hc
      have HNRj := Lib.hid hnr
      generalize digs (bin a j) = dj at HTM HNRj
      generalize digs (bin a j * k) = dp at HTM HPT
      generalize digs k = dk at HOK HTM
      generalize digs n1 = dn at HOJ HPT
      clear hlj hlk hln hlp hlq hk hn1 hc hnr hq
      go_wp2_with fail

      have HS : Hid (∀ W, Below wr.heap.size wr W → W.cell? ⟨bb, off + j, none⟩ = some (.slice X lj x)) := fun W hW => (hW.cell (p := ⟨bb, off + j, none⟩) hbb).trans HC.out
      have E0 : Below wr.heap.size wr wr := Below.refl _ _
      refine wp_region_noPanic ?_
      refine wp_region_held_drew (S := fun W => W.cell? ⟨bb, off + j, none⟩ = some (.slice X lj x)) (by kernel_rfl) (HS.out _ E0.drew) (fun hS => ?_)
      have E0 := E0.drew
      refine hd_take 0 (_) rfl rfl (by kernel_rfl) (by kernel_rfl) (by kernel_rfl) (fun _ _ _ h => h) (fun w hw => by go_simp <;> rfl) hS ?_
      simp only [List.getElem_toArray, List.getElem_cons_succ, List.getElem_cons_zero, Act.put, List.setIfInBounds_toArray, List.set_cons_zero, List.set_cons_succ]
      refine hd_take 1 (_) rfl rfl (by kernel_rfl) (by kernel_rfl) (by kernel_rfl) (fun _ _ _ h => h) (fun w hw => by go_simp <;> rfl) hS ?_
      simp only [List.getElem_toArray, List.getElem_cons_succ, List.getElem_cons_zero, Act.put, List.setIfInBounds_toArray, List.set_cons_zero, List.set_cons_succ]
      refine hd_take 2 (.int .i64 (j : Int)) rfl rfl (by kernel_rfl) (by kernel_rfl) (by kernel_rfl) (fun _ _ _ h => h) (fun w hw => by have hx := e0; simp [go_sem, hx]) hS ?_
      simp only [List.getElem_toArray, List.getElem_cons_succ, List.getElem_cons_zero, Act.put, List.setIfInBounds_toArray, List.set_cons_zero, List.set_cons_succ]
      refine hd_take 3 (.pointer (some ⟨bb, off + j, none⟩)) rfl rfl (by kernel_rfl) (by kernel_rfl) (by kernel_rfl) (fun _ _ _ h => h) (fun w hw => by simp [go_sem, hjn, hj0]) hS ?_
      simp only [List.getElem_toArray, List.getElem_cons_succ, List.getElem_cons_zero, Act.put, List.setIfInBounds_toArray, List.set_cons_zero, List.set_cons_succ]
      refine hd_take 4 (.slice X lj x) rfl rfl (by kernel_rfl) (by kernel_rfl) (by kernel_rfl) (fun _ _ _ h => h) (fun w hw => by have hx := hw; simp [go_sem, hx]) hS ?_
      simp only [List.getElem_toArray, List.getElem_cons_succ, List.getElem_cons_zero, Act.put, List.setIfInBounds_toArray, List.set_cons_zero, List.set_cons_succ]
      refine hd_take 5 (_) rfl rfl (by kernel_rfl) (by kernel_rfl) (by kernel_rfl) (fun _ _ _ h => h) (fun w hw => by go_simp <;> rfl) hS ?_
      simp only [List.getElem_toArray, List.getElem_cons_succ, List.getElem_cons_zero, Act.put, List.setIfInBounds_toArray, List.set_cons_zero, List.set_cons_succ]
      refine hd_take 6 (_) rfl rfl (by kernel_rfl) (by kernel_rfl) (by kernel_rfl) (fun _ _ _ h => h) (fun w hw => by go_simp <;> rfl) hS ?_
      simp only [List.getElem_toArray, List.getElem_cons_succ, List.getElem_cons_zero, Act.put, List.setIfInBounds_toArray, List.set_cons_zero, List.set_cons_succ]
      refine hd_take 7 (.int .i64 (q : Int)) rfl rfl (by kernel_rfl) (by kernel_rfl) (by kernel_rfl) (fun _ _ _ h => h) (fun w hw => by have hx := e1; simp [go_sem, hx]) hS ?_
      simp only [List.getElem_toArray, List.getElem_cons_succ, List.getElem_cons_zero, Act.put, List.setIfInBounds_toArray, List.set_cons_zero, List.set_cons_succ]
      refine hd_take 8 (.int .i64 (k : Int)) rfl rfl (by kernel_rfl) (by kernel_rfl) (by kernel_rfl) (fun _ _ _ h => h) (fun w hw => by have hx := e2; simp [go_sem, hx]) hS ?_
      simp only [List.getElem_toArray, List.getElem_cons_succ, List.getElem_cons_zero, Act.put, List.setIfInBounds_toArray, List.set_cons_zero, List.set_cons_succ]
      refine hd_take 9 (.int .u64 (k : Int)) rfl rfl (by kernel_rfl) (by kernel_rfl) (by kernel_rfl) (fun _ _ _ h => h) (fun w hw => by have hx := e3; simp [go_sem, hx]) hS ?_
      simp only [List.getElem_toArray, List.getElem_cons_succ, List.getElem_cons_zero, Act.put, List.setIfInBounds_toArray, List.set_cons_zero, List.set_cons_succ]
      refine hd_calls 10 23 #[.int .u64 (k : Int)] rfl rfl (by kernel_rfl) (by go_simp <;> rfl) ?_
      refine (HOK.out _).mono ?_
      rintro e y1 ⟨⟨oA, oc, rfl, ho⟩, hb⟩
      have E1_ := bel_on E0 hb
      have hS1_ := HS.out _ E1_
      clear hb
      refine ⟨_, rfl, hS1_, ?_⟩
      simp only [List.getElem_toArray, List.getElem_cons_succ, List.getElem_cons_zero, Act.put, List.setIfInBounds_toArray, List.set_cons_zero, List.set_cons_succ]
      refine hd_calls 11 83 #[.slice X lj x, .slice oA lk oc] rfl rfl (by kernel_rfl) (by go_simp <;> rfl) ?_
      refine (HTM.out _ _ _ _ _ (HNRj.out.below E1_) ho).mono ?_
      rintro e y2 ⟨⟨pA, pc, rfl, hp⟩, hb⟩
      have E2_ := bel_on E1_ hb
      have hS2_ := HS.out _ E2_
      clear hb
      refine ⟨_, rfl, hS2_, ?_⟩
      simp only [List.getElem_toArray, List.getElem_cons_succ, List.getElem_cons_zero, Act.put, List.setIfInBounds_toArray, List.set_cons_zero, List.set_cons_succ]
      refine hd_take 12 (_) rfl rfl (by kernel_rfl) (by kernel_rfl) (by kernel_rfl) (fun _ _ _ h => h) (fun w hw => by go_simp <;> rfl) hS2_ ?_
      simp only [List.getElem_toArray, List.getElem_cons_succ, List.getElem_cons_zero, Act.put, List.setIfInBounds_toArray, List.set_cons_zero, List.set_cons_succ]
      refine hd_take 13 (_) rfl rfl (by kernel_rfl) (by kernel_rfl) (by kernel_rfl) (fun _ _ _ h => h) (fun w hw => by go_simp <;> rfl) hS2_ ?_
      simp only [List.getElem_toArray, List.getElem_cons_succ, List.getElem_cons_zero, Act.put, List.setIfInBounds_toArray, List.set_cons_zero, List.set_cons_succ]
      refine hd_calls 14 51 #[.slice pA lp pc, .int .i64 0] rfl rfl (by kernel_rfl) (by go_simp <;> rfl) ?_
      refine (HMU.out _ _ _ _).mono ?_
      rintro e y3 ⟨rfl, hb⟩
      have E3_ := bel_on E2_ hb
      have hS3_ := HS.out _ E3_
      have hp := hp.below hb
      clear hb
      refine ⟨_, rfl, hS3_, ?_⟩
      simp only [List.getElem_toArray, List.getElem_cons_succ, List.getElem_cons_zero, Act.put, List.setIfInBounds_toArray, List.set_cons_zero, List.set_cons_succ]
      refine hd_take 15 (_) rfl rfl (by kernel_rfl) (by kernel_rfl) (by kernel_rfl) (fun _ _ _ h => h) (fun w hw => by go_simp <;> rfl) hS3_ ?_
      simp only [List.getElem_toArray, List.getElem_cons_succ, List.getElem_cons_zero, Act.put, List.setIfInBounds_toArray, List.set_cons_zero, List.set_cons_succ]
      refine wpAnyH_done (by kernel_rfl) (NoPanic.normal ?_) _
      have E9 := Lib.hid (bel_on hbel E3_)
      have P9 := Lib.hid hp
      have R9 := Lib.hid (HR.out.below E3_)
      go_wp2_with (first
        | (go_at_call 23; (with_reducible refine (HOJ.out _).mono ?_); rintro e y4 ⟨⟨qA, qc, rfl, hq⟩, hb⟩; have Q4 := Lib.hid hq; have P4 := Lib.hid (P9.out.below hb); have E4 := Lib.hid (bel_on E9.out hb); have R4 := Lib.hid (R9.out.below hb); clear hq hb)
        | (go_at_call 106; (with_reducible refine (HPT.out _ _ _ _ _ P4.out Q4.out).mono ?_); rintro e y5 ⟨⟨sA, sc, tA, tc, lr, rfl, hs⟩, hb⟩; have S5 := Lib.hid hs; have E5 := Lib.hid (bel_on E4.out hb); have R5 := Lib.hid (R4.out.below hb); have A5 := Lib.hid (NF.apt R4.out hs (Nat.le_refl _)); clear hs hb)
        | (at_builtin; refine wpList_append_natrow _ rfl (.tmp 40) (.tmp 42) rfl w.heap.size (some ⟨bb, off, none⟩) (j + 1) c rs HN.out rfl (R5.out.below (alloc_bel _ _)).1 ⟨sA, sc, digs (bin a (j + 1))⟩ (some ⟨y5.heap.size, 0, none⟩) 1 rfl (by unfold NRow.v; rw [HLQ.out]; exact Src.one _ _ _) (by omega) (by have := E5.out.size; simp; omega) ?_; intro A6 c6 w6 ho6 hb6 hg6 hl6))
      have R6 : Hid (RowsN w.heap.size w6 A6 c6 (rs ++ [⟨sA, sc, digs (bin a (j + 1))⟩])) := by
        have := R5.out.below (alloc_bel y5 (.cells #[.slice sA lq sc] 25))
        refine RowsN.snoc this (S5.out.1.alloc _) (S5.out.fromB E4.out.size) A5.out ho6 (by rw [HN.out]; exact hg6) (by rw [HN.out]; exact hl6)
      have E6 : Hid (Below w.heap.size w w6) := (E5.out.alloc (by have := E5.out.size; omega) _).trans (hb6.mono (Nat.le_refl _))
      have HB6 : Hid (∀ i, i ≤ j + 1 → ∃ r, (rs ++ [⟨sA, sc, digs (bin a (j + 1))⟩])[i]? = some r ∧ r.l = digs (bin a i)) := fun i hi => by
        rcases Nat.lt_or_ge i (j + 1) with h1 | h1
        · obtain ⟨r, hr, hl⟩ := HB.out i (by omega)
          exact ⟨r, by rw [List.getElem?_append_left (by rw [HN.out]; omega)]; exact hr, hl⟩
        · obtain rfl : i = j + 1 := by omega
          exact ⟨_, by rw [List.getElem?_append_right (by rw [HN.out]; omega), HN.out, Nat.sub_self]; rfl, rfl⟩
      clear ho6 hb6 hg6 hl6 hS
      go_roundw
      case rel => exact ⟨j + 1, A6, c6, _, by omega, by go_num, rfl, by unfold Hid; rw [List.length_append, HN.out]; rfl, R6.out, HB6.out, E6.out⟩
      case measure => simp [intOf]; omega
    · obtain rfl : j = a := by omega
      have hx : ¬ ((j : Int) + 1 ≤ j) := by omega
      go_wp2_with fail
      go_ret
      exact ⟨⟨A, c, rfl, HR.out.bin HN.out (by omega) HB.out⟩, hbel⟩
end Go.Proofs.YtchnaimpmegbkaaGreatDoor

/- Limits; whether a code of steps is valid; within: both sides. -/
namespace Go.Proofs.YtchnaimpmegbkaaGreatDoor
open Go.RowKit
set_option linter.unusedVariables false
set_option linter.unusedSimpArgs false

/-- A limit. -/
def limB (a b : List Nat) : Bool := vfB a b && (decide (a.length ≤ 4) && (decide (b.length ≤ 4) && decide (val a < val b)))
theorem limB_iff {a b : List Nat} : limB a b = true ↔ vfB a b = true ∧ a.length ≤ 4 ∧ b.length ≤ 4 ∧ val a < val b := by unfold limB; simp
theorem limB_no {a b : List Nat} (h : ¬ (vfB a b = true ∧ a.length ≤ 4 ∧ b.length ≤ 4 ∧ val a < val b)) : limB a b = false := by
  cases hl : limB a b
  · rfl
  · exact absurd (limB_iff.1 hl) h
theorem vfB_both {a b : List Nat} (h : vfB a b = true) : bothB a b = true := by unfold vfB at h; simp at h; exact h.1.1
theorem cmpS_both {a b : List Nat} (h : bothB a b = true) : cmpS a b = (cmpN (val a) (val b), 0) := by unfold cmpS; rw [if_pos h]
theorem cmpN_neg (x y : Nat) : decide (cmpN x y < 0) = decide (x < y) := by
  rcases cmpN_cases x y with ⟨h, e⟩ | ⟨h, e⟩ | ⟨h, e⟩ <;> rw [e]
  · exact (decide_eq_true h).symm
  · exact (decide_eq_false (by omega)).symm
  · exact (decide_eq_false (by omega)).symm
theorem cmpN_nonpos (x y : Nat) : decide (cmpN x y ≤ 0) = decide (x ≤ y) := by
  rcases cmpN_cases x y with ⟨h, e⟩ | ⟨h, e⟩ | ⟨h, e⟩ <;> rw [e]
  · exact (decide_eq_true (by omega)).symm
  · exact (decide_eq_false (by omega)).symm
  · exact (decide_eq_true (by omega)).symm

set_option maxHeartbeats 4000000 in
set_option maxRecDepth 100000 in
theorem isLimit_any (A : Option Addr) (ca : Nat) (a : List Nat) (Bd : Option Addr) (cb : Nat) (b : List Nat) (w : World) {na nb : Nat} (hna : a.length = na) (hnb : b.length = nb) (ha : NR w A ca a) (hb : NR w Bd cb b) :
    Calls Tryz.prog 103 #[.agg #[.slice A na ca, .slice Bd nb cb]] w fun e w' => e = .returned (.bool (limB a b)) ∧ Below w.heap.size w w' := by
  obtain ⟨W0, hW0⟩ : ∃ W : World, W = w.alloc (.cells #[.slice A na ca, .slice Bd nb cb] 27) := ⟨_, rfl⟩
  have b0 : Hid (Below w.heap.size w W0) := by unfold Hid; rw [hW0]; exact alloc_below _ _
  have x0 : Hid (Blk W0 w.heap.size 27 #[.slice A na ca, .slice Bd nb cb]) := by unfold Hid; rw [hW0]; exact Blk.new w _ _
  have hai : (na : Int) ≤ 9223372036854775807 := by have := ha.len; omega
  have hbi : (nb : Int) ≤ 9223372036854775807 := by have := hb.len; omega
  have HW0 := Lib.hid hW0
  have HCF : Hid (∀ W, Below w.heap.size w W → Calls Tryz.prog 85 #[.agg #[.slice A na ca, .slice Bd nb cb]] W fun e w' => e = .returned (.int .i64 (cfS a b)) ∧ Below W.heap.size W w') := fun W hW => CheckFraction_any A ca a Bd cb b W hna hnb (ha.below hW) (hb.below hW)
  have HCM : Hid (∀ W, Below w.heap.size w W → Calls Tryz.prog 128 #[.slice A na ca, .slice Bd nb cb] W fun e w' => e = .returned (.tuple #[.int .i64 (cmpS a b).1, .int .i64 (cmpS a b).2]) ∧ Below W.heap.size W w') := fun W hW => Compare_any A ca a Bd cb b W hna hnb (ha.below hW) (hb.below hW)
  cases hv : vfB a b with
  | false =>
    have HS : Hid (Ending.returned (.bool false) = .returned (.bool (limB a b))) := by unfold Hid; rw [limB_no (by rw [hv]; simp)]
    rw [show cfS a b = 8 from by unfold cfS; rw [hv]; rfl] at HCF
    clear hW0 ha hb hna hnb hv
    go_enter Tryz.func103, Tryz.ntmps103
    go_wp2_with (first
    | ((first | rw [← HW0.out] | skip); refine wpList_load_row rfl 27 (.tmp 1) rfl (w.heap.size) rfl 27 #[.slice A na ca, .slice Bd nb cb] (0, 0) _ x0.out Tryz.underlying27 rfl (by kernel_rfl) ?_)
    | (go_at_call 85; (with_reducible refine (HCF.out _ b0.out).mono ?_); rintro e w1 ⟨rfl, hb⟩; have D1 := Lib.hid (bel_on b0.out hb); have x1 := Lib.hid (x0.out.below' hb); clear hb; have k0 := x1.out.cell 0; have k1 := x1.out.cell 1)
    | (go_at_call 128; (with_reducible refine (HCM.out _ D1.out).mono ?_); rintro e w2 ⟨rfl, hb⟩; have D2 := Lib.hid (bel_on D1.out hb); clear hb))
    all_goals first | omega | (go_ret; exact ⟨HS.out, D1.out⟩)
  | true =>
    rw [show cfS a b = 0 from by unfold cfS; rw [hv]; rfl] at HCF
    rw [cmpS_both (vfB_both hv)] at HCM
    by_cases hl : na ≤ 4 ∧ nb ≤ 4
    · have hl1 : (na : Int) ≤ 4 := by omega
      have hl2 : (nb : Int) ≤ 4 := by omega
      have hq : limB a b = decide (val a < val b) := by
        unfold limB
        rw [hv, decide_eq_true (show a.length ≤ 4 by omega), decide_eq_true (show b.length ≤ 4 by omega)]; rfl
      obtain ⟨z, hz⟩ : ∃ z, cmpN (val a) (val b) = z := ⟨_, rfl⟩
      rw [hz] at HCM
      have HS : Hid (∀ q, Ending.returned (.bool (decide (q < (0 : Int)))) = .returned (.bool (decide (q < (0 : Int))))) := fun q => rfl
      have HT : Hid (decide (z < 0) = limB a b) := by unfold Hid; rw [hq, ← hz]; exact cmpN_neg _ _
      clear hW0 ha hb hna hnb hv hl hq hz
      go_enter Tryz.func103, Tryz.ntmps103
      go_wp2_with (first
    | ((first | rw [← HW0.out] | skip); refine wpList_load_row rfl 27 (.tmp 1) rfl (w.heap.size) rfl 27 #[.slice A na ca, .slice Bd nb cb] (0, 0) _ x0.out Tryz.underlying27 rfl (by kernel_rfl) ?_)
    | (go_at_call 85; (with_reducible refine (HCF.out _ b0.out).mono ?_); rintro e w1 ⟨rfl, hb⟩; have D1 := Lib.hid (bel_on b0.out hb); have x1 := Lib.hid (x0.out.below' hb); clear hb; have k0 := x1.out.cell 0; have k1 := x1.out.cell 1)
    | (go_at_call 128; (with_reducible refine (HCM.out _ D1.out).mono ?_); rintro e w2 ⟨rfl, hb⟩; have D2 := Lib.hid (bel_on D1.out hb); clear hb))
      all_goals first | omega | (go_ret; refine ⟨?_, D2.out⟩; rw [← HT.out]; rfl)
    · have HS : Hid (Ending.returned (.bool false) = .returned (.bool (limB a b))) := by unfold Hid; rw [limB_no (by omega)]
      have hl' : 4 < (na : Int) ∨ 4 < (nb : Int) := by omega
      clear hW0 ha hb hna hnb hv hl HCM
      go_enter Tryz.func103, Tryz.ntmps103
      go_wp2_with (first
    | ((first | rw [← HW0.out] | skip); refine wpList_load_row rfl 27 (.tmp 1) rfl (w.heap.size) rfl 27 #[.slice A na ca, .slice Bd nb cb] (0, 0) _ x0.out Tryz.underlying27 rfl (by kernel_rfl) ?_)
    | (go_at_call 85; (with_reducible refine (HCF.out _ b0.out).mono ?_); rintro e w1 ⟨rfl, hb⟩; have D1 := Lib.hid (bel_on b0.out hb); have x1 := Lib.hid (x0.out.below' hb); clear hb; have k0 := x1.out.cell 0; have k1 := x1.out.cell 1)
    | (go_at_call 128; (with_reducible refine (HCM.out _ D1.out).mono ?_); rintro e w2 ⟨rfl, hb⟩; have D2 := Lib.hid (bel_on D1.out hb); clear hb))
      all_goals first | omega | (go_ret; exact ⟨HS.out, D1.out⟩)
set_option maxHeartbeats 4000000 in
set_option maxRecDepth 100000 in
theorem refIsLimit_any (A : Option Addr) (ca : Nat) (a : List Nat) (Bd : Option Addr) (cb : Nat) (b : List Nat) (w : World) {na nb : Nat} (hna : a.length = na) (hnb : b.length = nb) (ha : NR w A ca a) (hb : NR w Bd cb b) :
    Calls Tryz.prog 60 #[.agg #[.slice A na ca, .slice Bd nb cb]] w fun e w' => e = .returned (.bool (limB a b)) ∧ Below w.heap.size w w' := by
  obtain ⟨W0, hW0⟩ : ∃ W : World, W = w.alloc (.cells #[.slice A na ca, .slice Bd nb cb] 27) := ⟨_, rfl⟩
  have b0 : Hid (Below w.heap.size w W0) := by unfold Hid; rw [hW0]; exact alloc_below _ _
  have x0 : Hid (Blk W0 w.heap.size 27 #[.slice A na ca, .slice Bd nb cb]) := by unfold Hid; rw [hW0]; exact Blk.new w _ _
  have hai : (na : Int) ≤ 9223372036854775807 := by have := ha.len; omega
  have hbi : (nb : Int) ≤ 9223372036854775807 := by have := hb.len; omega
  have HW0 := Lib.hid hW0
  have HCF : Hid (∀ W, Below w.heap.size w W → Calls Tryz.prog 92 #[.agg #[.slice A na ca, .slice Bd nb cb]] W fun e w' => e = .returned (.bool (vfB a b)) ∧ Below W.heap.size W w') := fun W hW => refValidFraction_any A ca a Bd cb b W hna hnb (ha.below hW) (hb.below hW)
  have HCM : Hid (∀ W, Below w.heap.size w W → Calls Tryz.prog 93 #[.slice A na ca, .slice Bd nb cb] W fun e w' => e = .returned (.int .i64 (cmpN (val a) (val b))) ∧ Below W.heap.size W w') := fun W hW => (refOrder_any A ca a Bd cb b W hna hnb (ha.below hW) (hb.below hW)).mono fun e w' ⟨h1, h2⟩ => ⟨h1, h2 ▸ Below.refl _ _⟩
  cases hv : vfB a b with
  | false =>
    have HS : Hid (Ending.returned (.bool false) = .returned (.bool (limB a b))) := by unfold Hid; rw [limB_no (by rw [hv]; simp)]
    rw [hv] at HCF
    clear hW0 ha hb hna hnb hv
    go_enter Tryz.func60, Tryz.ntmps60
    go_wp2_with (first
    | ((first | rw [← HW0.out] | skip); refine wpList_load_row rfl 27 (.tmp 1) rfl (w.heap.size) rfl 27 #[.slice A na ca, .slice Bd nb cb] (0, 0) _ x0.out Tryz.underlying27 rfl (by kernel_rfl) ?_)
    | (go_at_call 92; (with_reducible refine (HCF.out _ b0.out).mono ?_); rintro e w1 ⟨rfl, hb⟩; have D1 := Lib.hid (bel_on b0.out hb); have x1 := Lib.hid (x0.out.below' hb); clear hb; have k0 := x1.out.cell 0; have k1 := x1.out.cell 1)
    | (go_at_call 93; (with_reducible refine (HCM.out _ D1.out).mono ?_); rintro e w2 ⟨rfl, hb⟩; have D2 := Lib.hid (bel_on D1.out hb); clear hb))
    all_goals first | omega | (go_ret; exact ⟨HS.out, D1.out⟩)
  | true =>
    rw [hv] at HCF
    by_cases hl : na ≤ 4 ∧ nb ≤ 4
    · have hl1 : (na : Int) ≤ 4 := by omega
      have hl2 : (nb : Int) ≤ 4 := by omega
      have hq : limB a b = decide (val a < val b) := by
        unfold limB
        rw [hv, decide_eq_true (show a.length ≤ 4 by omega), decide_eq_true (show b.length ≤ 4 by omega)]; rfl
      obtain ⟨z, hz⟩ : ∃ z, cmpN (val a) (val b) = z := ⟨_, rfl⟩
      rw [hz] at HCM
      have HS : Hid (∀ q, Ending.returned (.bool (decide (q < (0 : Int)))) = .returned (.bool (decide (q < (0 : Int))))) := fun q => rfl
      have HT : Hid (decide (z < 0) = limB a b) := by unfold Hid; rw [hq, ← hz]; exact cmpN_neg _ _
      clear hW0 ha hb hna hnb hv hl hq hz
      go_enter Tryz.func60, Tryz.ntmps60
      go_wp2_with (first
    | ((first | rw [← HW0.out] | skip); refine wpList_load_row rfl 27 (.tmp 1) rfl (w.heap.size) rfl 27 #[.slice A na ca, .slice Bd nb cb] (0, 0) _ x0.out Tryz.underlying27 rfl (by kernel_rfl) ?_)
    | (go_at_call 92; (with_reducible refine (HCF.out _ b0.out).mono ?_); rintro e w1 ⟨rfl, hb⟩; have D1 := Lib.hid (bel_on b0.out hb); have x1 := Lib.hid (x0.out.below' hb); clear hb; have k0 := x1.out.cell 0; have k1 := x1.out.cell 1)
    | (go_at_call 93; (with_reducible refine (HCM.out _ D1.out).mono ?_); rintro e w2 ⟨rfl, hb⟩; have D2 := Lib.hid (bel_on D1.out hb); clear hb))
      all_goals first | omega | (go_ret; refine ⟨?_, D2.out⟩; rw [← HT.out]; rfl)
    · have HS : Hid (Ending.returned (.bool false) = .returned (.bool (limB a b))) := by unfold Hid; rw [limB_no (by omega)]
      have hl' : 4 < (na : Int) ∨ 4 < (nb : Int) := by omega
      clear hW0 ha hb hna hnb hv hl HCM
      go_enter Tryz.func60, Tryz.ntmps60
      go_wp2_with (first
    | ((first | rw [← HW0.out] | skip); refine wpList_load_row rfl 27 (.tmp 1) rfl (w.heap.size) rfl 27 #[.slice A na ca, .slice Bd nb cb] (0, 0) _ x0.out Tryz.underlying27 rfl (by kernel_rfl) ?_)
    | (go_at_call 92; (with_reducible refine (HCF.out _ b0.out).mono ?_); rintro e w1 ⟨rfl, hb⟩; have D1 := Lib.hid (bel_on b0.out hb); have x1 := Lib.hid (x0.out.below' hb); clear hb; have k0 := x1.out.cell 0; have k1 := x1.out.cell 1)
    | (go_at_call 93; (with_reducible refine (HCM.out _ D1.out).mono ?_); rintro e w2 ⟨rfl, hb⟩; have D2 := Lib.hid (bel_on D1.out hb); clear hb))
      all_goals first | omega | (go_ret; exact ⟨HS.out, D1.out⟩)
end Go.Proofs.YtchnaimpmegbkaaGreatDoor

/- Codes of steps in memory; whether one is valid: both sides. -/
namespace Go.Proofs.YtchnaimpmegbkaaGreatDoor
open Go.RowKit
set_option linter.unusedVariables false
set_option linter.unusedSimpArgs false

/-- A code of steps and where its limit lies. -/
structure StV where
  u : Int
  b : Int
  k : List UInt8
  A : Option Addr
  ca : Nat
  x : List Nat
  Bd : Option Addr
  cb : Nat
  y : List Nat
def StV.cs (s : StV) : List Value := .int .i64 s.u :: .int .i64 s.b :: (cellsB s.k ++ [.slice s.A s.x.length s.ca, .slice s.Bd s.y.length s.cb])
structure StOK (w : World) (s : StV) : Prop where
  k16 : s.k.length = 16
  hx : NR w s.A s.ca s.x
  hy : NR w s.Bd s.cb s.y
theorem StOK.below {w w' : World} {s : StV} (h : StOK w s) (hb : Below w.heap.size w w') : StOK w' s := ⟨h.k16, h.hx.below hb, h.hy.below hb⟩
theorem StV.len {s : StV} (h : s.k.length = 16) : s.cs.length = 20 := by simp [StV.cs, cellsB_length, h]
theorem StV.c0 (s : StV) : s.cs.toArray[0]? = some (.int .i64 s.u) := by simp [StV.cs]
theorem StV.c1 (s : StV) : s.cs.toArray[1]? = some (.int .i64 s.b) := by simp [StV.cs]
theorem StV.c18 {s : StV} (h : s.k.length = 16) : s.cs.toArray[18]? = some (.slice s.A s.x.length s.ca) := by
  have e : (cellsB s.k).length = 16 := by rw [cellsB_length, h]
  simp [StV.cs, List.getElem?_append, e]
theorem StV.c19 {s : StV} (h : s.k.length = 16) : s.cs.toArray[19]? = some (.slice s.Bd s.y.length s.cb) := by
  have e : (cellsB s.k).length = 16 := by rw [cellsB_length, h]
  simp [StV.cs, List.getElem?_append, e]
theorem StV.all (s : StV) : s.cs.toArray.all (·.oneCell') = true := by
  have := cellsB_one s.k
  simp [StV.cs, Value.oneCell']
  exact this
theorem StV.info {s : StV} (h : s.k.length = 16) : (Tryz.prog.info? 29).map (·.size) = some s.cs.toArray.size := by
  rw [List.size_toArray, StV.len h]; kernel_rfl
/-- The cells of a box that holds the code. -/
theorem StV.cells {w : World} {g : Nat} {s : StV} (hk : s.k.length = 16) (h : Blk w g 29 s.cs.toArray) :
    w.cell? ⟨g, 0, none⟩ = some (.int .i64 s.u) ∧ w.cell? ⟨g, 1, none⟩ = some (.int .i64 s.b) ∧ w.cell? ⟨g, 18, none⟩ = some (.slice s.A s.x.length s.ca) ∧ w.cell? ⟨g, 19, none⟩ = some (.slice s.Bd s.y.length s.cb) :=
  ⟨(h.cell 0).trans s.c0, (h.cell 1).trans s.c1, (h.cell 18).trans (StV.c18 hk), (h.cell 19).trans (StV.c19 hk)⟩
def stOkB (u b : Int) (l : Bool) : Bool := decide (2 ≤ u ∧ u ≤ 16 ∧ 1 ≤ b ∧ b ≤ 64) && l
def StV.ok (s : StV) : Bool := stOkB s.u s.b (limB s.x s.y)
def ckSt (b : Bool) : Int := if b = true then 0 else 70
theorem StV.parts {s : StV} (h : s.ok = true) : (2 ≤ s.u ∧ s.u ≤ 16 ∧ 1 ≤ s.b ∧ s.b ≤ 64) ∧ limB s.x s.y = true := by
  unfold StV.ok stOkB at h
  simpa using h

set_option maxHeartbeats 4000000 in
set_option maxRecDepth 100000 in
theorem CheckSteps_any (s : StV) (w : World) (h : StOK w s) :
    Calls Tryz.prog 74 #[.agg s.cs.toArray] w fun e w' => e = .returned (.int .i64 (ckSt s.ok)) ∧ Below w.heap.size w w' := by
  have HL : Hid (∀ W, Below w.heap.size w W → Calls Tryz.prog 103 #[.agg #[.slice s.A s.x.length s.ca, .slice s.Bd s.y.length s.cb]] W fun e w' => e = .returned (.bool (limB s.x s.y)) ∧ Below W.heap.size W w') := fun W hW => isLimit_any s.A s.ca s.x s.Bd s.cb s.y W rfl rfl (h.hx.below hW) (h.hy.below hW)
  obtain ⟨W0, hW0⟩ : ∃ W : World, W = w.alloc (.cells s.cs.toArray 29) := ⟨_, rfl⟩
  have b0 : Hid (Below w.heap.size w W0) := by unfold Hid; rw [hW0]; exact alloc_below _ _
  have x0 : Blk W0 w.heap.size 29 s.cs.toArray := by rw [hW0]; exact Blk.new w _ _
  obtain ⟨k0, k1, k18, k19⟩ := StV.cells h.k16 x0
  have HW0 := Lib.hid hW0
  unfold StV.ok
  clear x0 hW0 h
  obtain ⟨u, hu⟩ : ∃ u, s.u = u := ⟨_, rfl⟩
  obtain ⟨b, hb⟩ : ∃ b, s.b = b := ⟨_, rfl⟩
  rw [hu] at k0 ⊢
  rw [hb] at k1 ⊢
  obtain ⟨A, hA⟩ : ∃ A, s.A = A := ⟨_, rfl⟩
  obtain ⟨Bd, hB⟩ : ∃ A, s.Bd = A := ⟨_, rfl⟩
  obtain ⟨n, hn⟩ : ∃ n, s.x.length = n := ⟨_, rfl⟩
  obtain ⟨m, hm⟩ : ∃ n, s.y.length = n := ⟨_, rfl⟩
  obtain ⟨ca, hca⟩ : ∃ n, s.ca = n := ⟨_, rfl⟩
  obtain ⟨cb, hcb⟩ : ∃ n, s.cb = n := ⟨_, rfl⟩
  rw [hA, hn, hca] at k18 HL
  rw [hB, hm, hcb] at k19 HL
  generalize limB s.x s.y = l at HL ⊢
  clear hu hb hA hB hn hm hca hcb
  obtain ⟨cs, hcs⟩ : ∃ c, s.cs.toArray = c := ⟨_, rfl⟩
  rw [hcs] at HW0 ⊢
  clear hcs
  by_cases hr : 2 ≤ u ∧ u ≤ 16 ∧ 1 ≤ b ∧ b ≤ 64
  · obtain ⟨r1, r2, r3, r4⟩ := hr
    cases l with
    | true =>
      have HS : Hid (Ending.returned (.int .i64 0) = .returned (.int .i64 (ckSt (stOkB u b true)))) := by unfold Hid; rw [show stOkB u b true = true from by unfold stOkB; rw [decide_eq_true ⟨r1, r2, r3, r4⟩]; rfl] <;> rfl
      go_enter Tryz.func74, Tryz.ntmps74
      go_wp2_with (first | (rw [← HW0.out]) | (go_at_call 103; (with_reducible refine (HL.out _ b0.out).mono ?_); rintro e w1 ⟨rfl, hb⟩; have D1 := Lib.hid (bel_on b0.out hb); clear hb))
      all_goals first | omega | (go_ret; refine ⟨?_, D1.out⟩; exact HS.out)
    | false =>
      have HS : Hid (Ending.returned (.int .i64 70) = .returned (.int .i64 (ckSt (stOkB u b false)))) := by unfold Hid; rw [show stOkB u b false = false from by unfold stOkB; rw [decide_eq_true ⟨r1, r2, r3, r4⟩]; rfl] <;> rfl
      go_enter Tryz.func74, Tryz.ntmps74
      go_wp2_with (first | (rw [← HW0.out]) | (go_at_call 103; (with_reducible refine (HL.out _ b0.out).mono ?_); rintro e w1 ⟨rfl, hb⟩; have D1 := Lib.hid (bel_on b0.out hb); clear hb))
      all_goals first | omega | (go_ret; refine ⟨?_, D1.out⟩; exact HS.out)
  · have HS : Hid (Ending.returned (.int .i64 70) = .returned (.int .i64 (ckSt (stOkB u b l)))) := by unfold Hid; rw [show stOkB u b l = false from by unfold stOkB; rw [decide_eq_false hr]; rfl] <;> rfl
    have hr' : u < 2 ∨ 16 < u ∨ b < 1 ∨ 64 < b := by omega
    clear hr HL
    go_enter Tryz.func74, Tryz.ntmps74
    go_wp2_with (first | (rw [← HW0.out]) | (go_at_call 103; (with_reducible refine (HL.out _ b0.out).mono ?_); rintro e w1 ⟨rfl, hb⟩; have D1 := Lib.hid (bel_on b0.out hb); clear hb))
    all_goals first | omega | (go_ret; refine ⟨?_, b0.out⟩; exact HS.out)
set_option maxHeartbeats 4000000 in
set_option maxRecDepth 100000 in
theorem refValidSteps_any (s : StV) (w : World) (h : StOK w s) :
    Calls Tryz.prog 24 #[.agg s.cs.toArray] w fun e w' => e = .returned (.bool s.ok) ∧ Below w.heap.size w w' := by
  have HL : Hid (∀ W, Below w.heap.size w W → Calls Tryz.prog 60 #[.agg #[.slice s.A s.x.length s.ca, .slice s.Bd s.y.length s.cb]] W fun e w' => e = .returned (.bool (limB s.x s.y)) ∧ Below W.heap.size W w') := fun W hW => refIsLimit_any s.A s.ca s.x s.Bd s.cb s.y W rfl rfl (h.hx.below hW) (h.hy.below hW)
  obtain ⟨W0, hW0⟩ : ∃ W : World, W = w.alloc (.cells s.cs.toArray 29) := ⟨_, rfl⟩
  have b0 : Hid (Below w.heap.size w W0) := by unfold Hid; rw [hW0]; exact alloc_below _ _
  have x0 : Blk W0 w.heap.size 29 s.cs.toArray := by rw [hW0]; exact Blk.new w _ _
  obtain ⟨k0, k1, k18, k19⟩ := StV.cells h.k16 x0
  have HW0 := Lib.hid hW0
  unfold StV.ok
  clear x0 hW0 h
  obtain ⟨u, hu⟩ : ∃ u, s.u = u := ⟨_, rfl⟩
  obtain ⟨b, hb⟩ : ∃ b, s.b = b := ⟨_, rfl⟩
  rw [hu] at k0 ⊢
  rw [hb] at k1 ⊢
  obtain ⟨A, hA⟩ : ∃ A, s.A = A := ⟨_, rfl⟩
  obtain ⟨Bd, hB⟩ : ∃ A, s.Bd = A := ⟨_, rfl⟩
  obtain ⟨n, hn⟩ : ∃ n, s.x.length = n := ⟨_, rfl⟩
  obtain ⟨m, hm⟩ : ∃ n, s.y.length = n := ⟨_, rfl⟩
  obtain ⟨ca, hca⟩ : ∃ n, s.ca = n := ⟨_, rfl⟩
  obtain ⟨cb, hcb⟩ : ∃ n, s.cb = n := ⟨_, rfl⟩
  rw [hA, hn, hca] at k18 HL
  rw [hB, hm, hcb] at k19 HL
  generalize limB s.x s.y = l at HL ⊢
  clear hu hb hA hB hn hm hca hcb
  obtain ⟨cs, hcs⟩ : ∃ c, s.cs.toArray = c := ⟨_, rfl⟩
  rw [hcs] at HW0 ⊢
  clear hcs
  by_cases hr : 2 ≤ u ∧ u ≤ 16 ∧ 1 ≤ b ∧ b ≤ 64
  · obtain ⟨r1, r2, r3, r4⟩ := hr
    cases l with
    | true =>
      have HS : Hid (Ending.returned (.bool true) = .returned (.bool (stOkB u b true))) := by unfold Hid; rw [show stOkB u b true = true from by unfold stOkB; rw [decide_eq_true ⟨r1, r2, r3, r4⟩]; rfl] <;> rfl
      go_enter Tryz.func24, Tryz.ntmps24
      go_wp2_with (first | (rw [← HW0.out]) | (go_at_call 60; (with_reducible refine (HL.out _ b0.out).mono ?_); rintro e w1 ⟨rfl, hb⟩; have D1 := Lib.hid (bel_on b0.out hb); clear hb))
      all_goals first | omega | (go_ret; refine ⟨?_, D1.out⟩; exact HS.out)
    | false =>
      have HS : Hid (Ending.returned (.bool false) = .returned (.bool (stOkB u b false))) := by unfold Hid; rw [show stOkB u b false = false from by unfold stOkB; rw [decide_eq_true ⟨r1, r2, r3, r4⟩]; rfl] <;> rfl
      go_enter Tryz.func24, Tryz.ntmps24
      go_wp2_with (first | (rw [← HW0.out]) | (go_at_call 60; (with_reducible refine (HL.out _ b0.out).mono ?_); rintro e w1 ⟨rfl, hb⟩; have D1 := Lib.hid (bel_on b0.out hb); clear hb))
      all_goals first | omega | (go_ret; refine ⟨?_, D1.out⟩; exact HS.out)
  · have HS : Hid (Ending.returned (.bool false) = .returned (.bool (stOkB u b l))) := by unfold Hid; rw [show stOkB u b l = false from by unfold stOkB; rw [decide_eq_false hr]; rfl] <;> rfl
    have hr' : u < 2 ∨ 16 < u ∨ b < 1 ∨ 64 < b := by omega
    clear hr HL
    go_enter Tryz.func24, Tryz.ntmps24
    go_wp2_with (first | (rw [← HW0.out]) | (go_at_call 60; (with_reducible refine (HL.out _ b0.out).mono ?_); rintro e w1 ⟨rfl, hb⟩; have D1 := Lib.hid (bel_on b0.out hb); clear hb))
    all_goals first | omega | (go_ret; refine ⟨?_, b0.out⟩; exact HS.out)
end Go.Proofs.YtchnaimpmegbkaaGreatDoor

/- What the frames of the laws share: a code of steps among the arguments, opened. -/
namespace Go.Proofs.YtchnaimpmegbkaaGreatDoor
open Go.ChangeShapes Go.WideShapes Go.ChangeAt Go.RowKit Go.Deep
set_option linter.unusedVariables false

theorem cells_keyT : Tryz.prog.cellsOf 23 = 16 := by kernel_rfl
theorem cells_fracT : Tryz.prog.cellsOf 27 = 2 := by kernel_rfl
theorem cells_natT : Tryz.prog.cellsOf 25 = 1 := by kernel_rfl
theorem cells_stepsT : Tryz.prog.cellsOf 29 = 20 := by kernel_rfl
/-- A fraction, among cells. -/
theorem frac_of_trod {H : Type} {enc : TypeId × Value → H} {W : World} {fuel : Nat} {cs : List Value} {x : DataW H × List MemPlace} (h : DataW.trod enc Tryz.prog W 0 (fun _ => true) true fuel 27 cs = some x)
    (hw : ∀ n ∈ x.1.weights Tryz.prog 27, n ≤ reachBytes) : ∃ A c a B e b, cs = [.slice A (List.length a) c, .slice B (List.length b) e] ∧ NR W A c a ∧ NR W B e b := by
  obtain ⟨y0, y1, n, rfl, hl, h0, h1⟩ := trod_struct2 Tryz.underlying27 h
  have hw' : ∀ n ∈ DataW.weightsEach Tryz.prog [25, 25] [y0.1, y1.1], n ≤ reachBytes := by simpa [DataW.weights, Tryz.underlying27] using hw
  dsimp only at h0 h1
  rw [cells_natT] at h0 h1
  rw [cells_fracT] at hl
  obtain ⟨A, c, a, e1, hx⟩ := nat_of_trod h0 (fun m hm => hw' m (DataW.weights_mem_each (j := 0) rfl rfl m hm))
  obtain ⟨B, e, b, e2, hy⟩ := nat_of_trod h1 (fun m hm => hw' m (DataW.weights_mem_each (j := 1) rfl rfl m hm))
  refine ⟨A, c, a, B, e, b, ?_, hx, hy⟩
  match cs, hl with
  | [c0, c1], _ =>
    simp at e1 e2
    rw [e1, e2]
/-- A code of steps, among cells. -/
theorem steps_of_trod {H : Type} {enc : TypeId × Value → H} {W : World} {fuel : Nat} {cs : List Value} {x : DataW H × List MemPlace} (h : DataW.trod enc Tryz.prog W 0 (fun _ => true) true fuel 29 cs = some x)
    (hw : ∀ n ∈ x.1.weights Tryz.prog 29, n ≤ reachBytes) : ∃ s : StV, cs = s.cs ∧ StOK W s ∧ (-9223372036854775808 ≤ s.u ∧ s.u ≤ 9223372036854775807) ∧ (-9223372036854775808 ≤ s.b ∧ s.b ≤ 9223372036854775807) := by
  obtain ⟨y0, y1, y2, y3, n, rfl, hl, h0, h1, h2, h3⟩ := Go.Joins.trod_struct4 Tryz.underlying29 h
  have hw' : ∀ n ∈ DataW.weightsEach Tryz.prog [3, 3, 23, 27] [y0.1, y1.1, y2.1, y3.1], n ≤ reachBytes := by simpa [DataW.weights, Tryz.underlying29] using hw
  dsimp only at h0 h1 h2 h3
  rw [cells_int] at h0 h1
  rw [cells_keyT] at h2
  rw [cells_fracT] at h3
  rw [cells_stepsT] at hl
  obtain ⟨u, e0, hu⟩ := int_of_trod h0
  obtain ⟨b, e1, hb⟩ := int_of_trod h1
  obtain ⟨k, hk, e2⟩ := key_of_trod h2
  obtain ⟨A, c, a, B, e, d, e3, hx, hy⟩ := frac_of_trod h3 (fun m hm => hw' m (DataW.weights_mem_each (j := 3) rfl rfl m hm))
  refine ⟨⟨u, b, k, A, c, a, B, e, d⟩, ?_, ⟨hk, hx, hy⟩, hu, hb⟩
  match cs, hl with
  | c0 :: c1 :: r, hl =>
    simp at e0 e1
    have hr : r.length = 18 := by simpa using hl
    have a2 : List.take 16 r = cellsB k := by simpa using e2
    have a3 : List.drop 16 r = [.slice A a.length c, .slice B d.length e] := by
      rw [← e3]
      have e5 : List.drop (1 + 1 + 16) (c0 :: c1 :: r) = List.drop 16 r := rfl
      first
        | (rw [e5, List.take_of_length_le (by simp; omega)])
        | (simp only [List.drop_succ_cons, List.drop_zero, Nat.reduceAdd]; rw [List.take_of_length_le (by simp; omega)])
    rw [e0, e1, ← List.take_append_drop 16 r, a2, a3]
    rfl
set_option maxRecDepth 100000 in
theorem open_steps {H : Type} {enc : TypeId × Value → H} {W : World} {b0 : Nat} {v : Value} {d : DataW H} {ps : List MemPlace} (hval : Value.okWide Tryz.prog W .any b0 29 v) (hd : DataW.Trod enc Tryz.prog W 0 (fun _ => true) true 29 v d ps)
    (hw : ∀ n ∈ d.weights Tryz.prog 29, n ≤ reachBytes) : ∃ s : StV, v = .agg s.cs.toArray ∧ StOK W s ∧ (-9223372036854775808 ≤ s.u ∧ s.u ≤ 9223372036854775807) ∧ (-9223372036854775808 ≤ s.b ∧ s.b ≤ 9223372036854775807) := by
  obtain ⟨cs, rfl, hsz⟩ := okWide_struct Tryz.underlying29 hval
  obtain ⟨fuel, hf⟩ := hd
  obtain ⟨s, e, h1, h2, h3⟩ := steps_of_trod hf hw
  refine ⟨s, ?_, h1, h2, h3⟩
  rw [← e]
  simp [Value.cells]
end Go.Proofs.YtchnaimpmegbkaaGreatDoor

/- Whether a of b is at most a limit: both sides. -/
namespace Go.Proofs.YtchnaimpmegbkaaGreatDoor
open Go.RowKit
set_option linter.unusedVariables false
set_option linter.unusedSimpArgs false

theorem valid_digs_ {a : List Nat} (h : validB a = true) (hd : Dig a) : digs (val a) = a := digs_val hd (validB_iff.1 h).2
theorem sm_times {a b : Nat} (ha : (digs a).length ≤ 12) (hb : (digs b).length ≤ 4) : Sm (a * b) := by
  have h1 : a < 4294967296 ^ 12 := by
    exact Nat.lt_of_lt_of_le (lt_of_digs_len (Nat.le_refl _)) (Nat.pow_le_pow_right (by omega) ha)
  have h2 : b < 4294967296 ^ 4 := by
    exact Nat.lt_of_lt_of_le (lt_of_digs_len (Nat.le_refl _)) (Nat.pow_le_pow_right (by omega) hb)
  refine digs_len_le (k := 16) ?_
  have := Nat.mul_lt_mul_of_lt_of_lt h1 h2
  rwa [← Nat.pow_add] at this
theorem limB_sm {x y : List Nat} (h : limB x y = true) : validB x = true ∧ validB y = true ∧ x.length ≤ 4 ∧ y.length ≤ 4 ∧ val x < val y := by
  obtain ⟨h1, h2, h3, h4⟩ := limB_iff.1 h
  have := vfB_both h1
  unfold bothB at this
  simp at this
  exact ⟨this.1, this.2, h2, h3, h4⟩

set_option maxHeartbeats 4000000 in
set_option maxRecDepth 100000 in
theorem within_any (a z : Nat) (A : Option Addr) (ca : Nat) (Z : Option Addr) (cz : Nat) (X : Option Addr) (cx : Nat) (x : List Nat) (Y : Option Addr) (cy : Nat) (y : List Nat) (w : World) {la lz lx ly : Nat} (hla : (digs a).length = la) (hlz : (digs z).length = lz) (hlx : x.length = lx) (hly : y.length = ly) (ha : NR w A ca (digs a)) (hz : NR w Z cz (digs z)) (hx : NR w X cx x) (hy : NR w Y cy y) (hl : limB x y = true) (h1 : la ≤ 12) (h2 : lz ≤ 12) :
    Calls Tryz.prog 104 #[.slice A la ca, .slice Z lz cz, .agg #[.slice X lx cx, .slice Y ly cy]] w fun e w' => e = .returned (.bool (decide (a * val y ≤ val x * z))) ∧ Below w.heap.size w w' := by
  obtain ⟨v1, v2, l1, l2, hlt⟩ := limB_sm hl
  have ex : digs (val x) = x := valid_digs_ v1 hx.dig
  have ey : digs (val y) = y := valid_digs_ v2 hy.dig
  have s1 : Sm (a * val y) := sm_times (by omega) (by rw [ey]; exact l2)
  have s2 : Sm (val x * z) := by rw [Nat.mul_comm]; exact sm_times (by omega) (by rw [ex]; exact l1)
  have sa : Sm a := by unfold Sm; omega
  have sz : Sm z := by unfold Sm; omega
  have sx : Sm (val x) := by unfold Sm; rw [ex]; omega
  have sy : Sm (val y) := by unfold Sm; rw [ey]; omega
  obtain ⟨lp, hlp⟩ : ∃ l, (digs (a * val y)).length = l := ⟨_, rfl⟩
  obtain ⟨lq, hlq⟩ : ∃ l, (digs (val x * z)).length = l := ⟨_, rfl⟩
  have HM1 : Hid (∀ W, Below w.heap.size w W → Calls Tryz.prog 83 #[.slice A la ca, .slice Y ly cy] W fun e w' => (∃ P p, e = .returned (.tuple #[.slice P lp p, .int .i64 0]) ∧ NR w' P p (digs (a * val y))) ∧ Below W.heap.size W w') := fun W hW => by
    rw [← hlp]
    exact mulD_any s1 sa sy hla (by rw [ey]; exact hly) (ha.below hW) (by rw [ey]; exact hy.below hW)
  have HM2 : Hid (∀ W, Below w.heap.size w W → Calls Tryz.prog 83 #[.slice X lx cx, .slice Z lz cz] W fun e w' => (∃ P p, e = .returned (.tuple #[.slice P lq p, .int .i64 0]) ∧ NR w' P p (digs (val x * z))) ∧ Below W.heap.size W w') := fun W hW => by
    rw [← hlq]
    exact mulD_any s2 sx sz (by rw [ex]; exact hlx) hlz (by rw [ex]; exact hx.below hW) (hz.below hW)
  obtain ⟨c, hc⟩ : ∃ c, cmpN (a * val y) (val x * z) = c := ⟨_, rfl⟩
  have HCM : Hid (∀ W P p Q q, NR W P p (digs (a * val y)) → NR W Q q (digs (val x * z)) → Calls Tryz.prog 128 #[.slice P lp p, .slice Q lq q] W fun e w' => e = .returned (.tuple #[.int .i64 c, .int .i64 0]) ∧ Below W.heap.size W w') := fun W P p Q q g1 g2 => by
    have := Compare_any P p _ Q q _ W hlp hlq g1 g2
    rw [cmpS_both (s1.two s2), val_digs, val_digs, hc] at this
    exact this
  have HT : Hid (decide (c ≤ 0) = decide (a * val y ≤ val x * z)) := by unfold Hid; rw [← hc]; exact cmpN_nonpos _ _
  have HMU : Hid (∀ A n c W, Calls Tryz.prog 51 #[.slice A n c, .int .i64 0] W fun e w' => e = .returned (.slice A n c) ∧ Below W.heap.size W w') := fun A n c W => must_any A n c 0 W
  generalize digs (a * val y) = dp at HM1 HCM
  generalize digs (val x * z) = dq at HM2 HCM
  generalize decide (a * val y ≤ val x * z) = r at HT ⊢
  obtain ⟨W0, hW0⟩ : ∃ W, W = w.alloc (.cells #[.slice X lx cx, .slice Y ly cy] 27) := ⟨_, rfl⟩
  have b0 : Hid (Below w.heap.size w W0) := by unfold Hid; rw [hW0]; exact alloc_bel w _
  have Q0 : Hid (Blk W0 w.heap.size 27 #[.slice X lx cx, .slice Y ly cy]) := by unfold Hid; rw [hW0]; exact Blk.new w _ _
  have HW0 := Lib.hid hW0
  clear hW0 hla hlz hlx hly ha hz hx hy hl h1 h2 v1 v2 l1 l2 hlt ex ey s1 s2 sa sz sx sy hlp hlq hc
  go_enter Tryz.func104, Tryz.ntmps104
  go_wp2_with fail
  rw [← HW0.out]

  have HS : Hid (∀ W, Below W0.heap.size W0 W → W.cell? ⟨w.heap.size, 0, none⟩ = some (.slice X lx cx) ∧ W.cell? ⟨w.heap.size, 1, none⟩ = some (.slice Y ly cy)) := fun W hW => ⟨(Q0.out.below' hW).cell 0, (Q0.out.below' hW).cell 1⟩
  have E0 : Below W0.heap.size W0 W0 := Below.refl _ _
  refine wp_region_noPanic ?_
  refine wp_region_held_drew (S := fun W => W.cell? ⟨w.heap.size, 0, none⟩ = some (.slice X lx cx) ∧ W.cell? ⟨w.heap.size, 1, none⟩ = some (.slice Y ly cy)) (by kernel_rfl) (HS.out _ E0.drew) (fun hS => ?_)
  have E0 := E0.drew
  refine hd_take 0 (_) rfl rfl (by kernel_rfl) (by kernel_rfl) (by kernel_rfl) (fun _ _ _ h => h) (fun w hw => by go_simp <;> rfl) hS ?_
  simp only [List.getElem_toArray, List.getElem_cons_succ, List.getElem_cons_zero, Act.put, List.setIfInBounds_toArray, List.set_cons_zero, List.set_cons_succ]
  refine hd_take 1 (_) rfl rfl (by kernel_rfl) (by kernel_rfl) (by kernel_rfl) (fun _ _ _ h => h) (fun w hw => by go_simp <;> rfl) hS ?_
  simp only [List.getElem_toArray, List.getElem_cons_succ, List.getElem_cons_zero, Act.put, List.setIfInBounds_toArray, List.set_cons_zero, List.set_cons_succ]
  refine hd_take 2 (.slice Y ly cy) rfl rfl (by kernel_rfl) (by kernel_rfl) (by kernel_rfl) (fun _ _ _ h => h) (fun w hw => by have hx := hw.2; simp [go_sem, hx]) hS ?_
  simp only [List.getElem_toArray, List.getElem_cons_succ, List.getElem_cons_zero, Act.put, List.setIfInBounds_toArray, List.set_cons_zero, List.set_cons_succ]
  refine hd_take 7 (_) rfl rfl (by kernel_rfl) (by kernel_rfl) (by kernel_rfl) (fun _ _ _ h => h) (fun w hw => by go_simp <;> rfl) hS ?_
  simp only [List.getElem_toArray, List.getElem_cons_succ, List.getElem_cons_zero, Act.put, List.setIfInBounds_toArray, List.set_cons_zero, List.set_cons_succ]
  refine hd_take 8 (.slice X lx cx) rfl rfl (by kernel_rfl) (by kernel_rfl) (by kernel_rfl) (fun _ _ _ h => h) (fun w hw => by have hx := hw.1; simp [go_sem, hx]) hS ?_
  simp only [List.getElem_toArray, List.getElem_cons_succ, List.getElem_cons_zero, Act.put, List.setIfInBounds_toArray, List.set_cons_zero, List.set_cons_succ]
  refine hd_take 9 (_) rfl rfl (by kernel_rfl) (by kernel_rfl) (by kernel_rfl) (fun _ _ _ h => h) (fun w hw => by go_simp <;> rfl) hS ?_
  simp only [List.getElem_toArray, List.getElem_cons_succ, List.getElem_cons_zero, Act.put, List.setIfInBounds_toArray, List.set_cons_zero, List.set_cons_succ]
  refine hd_calls 3 83 #[.slice A la ca, .slice Y ly cy] rfl rfl (by kernel_rfl) (by go_simp <;> rfl) ?_
  refine (HM1.out _ (bel_on b0.out E0)).mono ?_
  rintro e y1 ⟨⟨oA, oc, rfl, ho⟩, hb⟩
  have E1_ := bel_on E0 hb
  have hS1_ := HS.out _ E1_
  clear hb
  refine ⟨_, rfl, hS1_, ?_⟩
  simp only [List.getElem_toArray, List.getElem_cons_succ, List.getElem_cons_zero, Act.put, List.setIfInBounds_toArray, List.set_cons_zero, List.set_cons_succ]
  refine hd_take 4 (_) rfl rfl (by kernel_rfl) (by kernel_rfl) (by kernel_rfl) (fun _ _ _ h => h) (fun w hw => by go_simp <;> rfl) hS1_ ?_
  simp only [List.getElem_toArray, List.getElem_cons_succ, List.getElem_cons_zero, Act.put, List.setIfInBounds_toArray, List.set_cons_zero, List.set_cons_succ]
  refine hd_take 5 (_) rfl rfl (by kernel_rfl) (by kernel_rfl) (by kernel_rfl) (fun _ _ _ h => h) (fun w hw => by go_simp <;> rfl) hS1_ ?_
  simp only [List.getElem_toArray, List.getElem_cons_succ, List.getElem_cons_zero, Act.put, List.setIfInBounds_toArray, List.set_cons_zero, List.set_cons_succ]
  refine hd_calls 6 51 #[.slice oA lp oc, .int .i64 0] rfl rfl (by kernel_rfl) (by go_simp <;> rfl) ?_
  refine (HMU.out _ _ _ _).mono ?_
  rintro e y2 ⟨rfl, hb⟩
  have E2_ := bel_on E1_ hb
  have hS2_ := HS.out _ E2_
  have ho := ho.below hb
  clear hb
  refine ⟨_, rfl, hS2_, ?_⟩
  simp only [List.getElem_toArray, List.getElem_cons_succ, List.getElem_cons_zero, Act.put, List.setIfInBounds_toArray, List.set_cons_zero, List.set_cons_succ]
  refine hd_calls 10 83 #[.slice X lx cx, .slice Z lz cz] rfl rfl (by kernel_rfl) (by go_simp <;> rfl) ?_
  refine (HM2.out _ (bel_on b0.out E2_)).mono ?_
  rintro e y3 ⟨⟨qA, qc, rfl, hq⟩, hb⟩
  have E3_ := bel_on E2_ hb
  have hS3_ := HS.out _ E3_
  have ho := ho.below hb
  clear hb
  refine ⟨_, rfl, hS3_, ?_⟩
  simp only [List.getElem_toArray, List.getElem_cons_succ, List.getElem_cons_zero, Act.put, List.setIfInBounds_toArray, List.set_cons_zero, List.set_cons_succ]
  refine hd_take 11 (_) rfl rfl (by kernel_rfl) (by kernel_rfl) (by kernel_rfl) (fun _ _ _ h => h) (fun w hw => by go_simp <;> rfl) hS3_ ?_
  simp only [List.getElem_toArray, List.getElem_cons_succ, List.getElem_cons_zero, Act.put, List.setIfInBounds_toArray, List.set_cons_zero, List.set_cons_succ]
  refine hd_take 12 (_) rfl rfl (by kernel_rfl) (by kernel_rfl) (by kernel_rfl) (fun _ _ _ h => h) (fun w hw => by go_simp <;> rfl) hS3_ ?_
  simp only [List.getElem_toArray, List.getElem_cons_succ, List.getElem_cons_zero, Act.put, List.setIfInBounds_toArray, List.set_cons_zero, List.set_cons_succ]
  refine hd_calls 13 51 #[.slice qA lq qc, .int .i64 0] rfl rfl (by kernel_rfl) (by go_simp <;> rfl) ?_
  refine (HMU.out _ _ _ _).mono ?_
  rintro e y4 ⟨rfl, hb⟩
  have E4_ := bel_on E3_ hb
  have hS4_ := HS.out _ E4_
  have ho := ho.below hb
  have hq := hq.below hb
  clear hb
  refine ⟨_, rfl, hS4_, ?_⟩
  simp only [List.getElem_toArray, List.getElem_cons_succ, List.getElem_cons_zero, Act.put, List.setIfInBounds_toArray, List.set_cons_zero, List.set_cons_succ]
  refine hd_calls 14 128 #[.slice oA lp oc, .slice qA lq qc] rfl rfl (by kernel_rfl) (by go_simp <;> rfl) ?_
  refine (HCM.out _ _ _ _ _ ho hq).mono ?_
  rintro e y5 ⟨rfl, hb⟩
  have E5_ := bel_on E4_ hb
  have hS5_ := HS.out _ E5_
  clear hb
  refine ⟨_, rfl, hS5_, ?_⟩
  simp only [List.getElem_toArray, List.getElem_cons_succ, List.getElem_cons_zero, Act.put, List.setIfInBounds_toArray, List.set_cons_zero, List.set_cons_succ]
  refine hd_take 15 (_) rfl rfl (by kernel_rfl) (by kernel_rfl) (by kernel_rfl) (fun _ _ _ h => h) (fun w hw => by go_simp <;> rfl) hS5_ ?_
  simp only [List.getElem_toArray, List.getElem_cons_succ, List.getElem_cons_zero, Act.put, List.setIfInBounds_toArray, List.set_cons_zero, List.set_cons_succ]
  refine hd_take 16 (_) rfl rfl (by kernel_rfl) (by kernel_rfl) (by kernel_rfl) (fun _ _ _ h => h) (fun w hw => by go_simp <;> rfl) hS5_ ?_
  simp only [List.getElem_toArray, List.getElem_cons_succ, List.getElem_cons_zero, Act.put, List.setIfInBounds_toArray, List.set_cons_zero, List.set_cons_succ]
  refine hd_take 17 (_) rfl rfl (by kernel_rfl) (by kernel_rfl) (by kernel_rfl) (fun _ _ _ h => h) (fun w hw => by go_simp <;> rfl) hS5_ ?_
  simp only [List.getElem_toArray, List.getElem_cons_succ, List.getElem_cons_zero, Act.put, List.setIfInBounds_toArray, List.set_cons_zero, List.set_cons_succ]
  refine hd_take 18 (_) rfl rfl (by kernel_rfl) (by kernel_rfl) (by kernel_rfl) (fun _ _ _ h => h) (fun w hw => by go_simp <;> rfl) hS5_ ?_
  simp only [List.getElem_toArray, List.getElem_cons_succ, List.getElem_cons_zero, Act.put, List.setIfInBounds_toArray, List.set_cons_zero, List.set_cons_succ]
  refine hd_take 19 (_) rfl rfl (by kernel_rfl) (by kernel_rfl) (by kernel_rfl) (fun _ _ _ h => h) (fun w hw => by go_simp <;> rfl) hS5_ ?_
  simp only [List.getElem_toArray, List.getElem_cons_succ, List.getElem_cons_zero, Act.put, List.setIfInBounds_toArray, List.set_cons_zero, List.set_cons_succ]
  refine wpAnyH_done (by kernel_rfl) (NoPanic.normal ?_) _
  go_wp2_with fail
  go_ret
  refine ⟨?_, bel_on b0.out E5_⟩
  rw [← HT.out]
  rfl
end Go.Proofs.YtchnaimpmegbkaaGreatDoor

/- Numbers of choices and of divisions: the program. -/
namespace Go.Proofs.YtchnaimpmegbkaaGreatDoor
open Go.RowKit
set_option linter.unusedVariables false
set_option linter.unusedSimpArgs false

/-- The number of ways to choose b of a things, for any b. -/
def chS (a : Nat) (b : Int) : Nat := if b < 0 then 0 else bin a b.toNat
theorem chS_neg {a : Nat} {b : Int} (h : b < 0) : chS a b = 0 := by rw [chS, if_pos h]
theorem chS_nat (a b : Nat) : chS a (b : Int) = bin a b := by rw [chS, if_neg (by omega), Int.toNat_natCast]
theorem chS_above {a : Nat} {b : Int} (h : (a : Int) < b) : chS a b = 0 := by rw [chS, if_neg (by omega)]; exact bin_above (by omega)
theorem chS_le (a : Nat) (b : Int) : chS a b ≤ 2 ^ a := by
  unfold chS
  split
  · exact Nat.zero_le _
  · exact bin_le _ _
theorem pick_chS (k n d x : Nat) : chS k (x : Int) * chS n ((d : Int) - (x : Int)) = pick k n d x := by
  unfold pick
  rw [chS_nat]
  by_cases h : x ≤ d
  · rw [if_pos h, show (d : Int) - (x : Int) = ((d - x : Nat) : Int) from by omega, chS_nat]
  · rw [if_neg h, chS_neg (by omega), Nat.mul_zero]
theorem pick_le {k n d x m : Nat} (h : k + n = m) (hx : x ≤ d) : pick k n d x ≤ 2 ^ m := by
  have := pick_sum k n d
  rw [h] at this
  have h2 := sumN_mono (pick k n d) (show x + 1 ≤ d + 1 by omega)
  rw [sumN_succ] at h2
  have := bin_le m d
  omega
theorem pick_le_ (k n d x : Nat) : pick k n d x ≤ 2 ^ (k + n) := by
  by_cases h : x ≤ d
  · exact pick_le rfl h
  · unfold pick; rw [if_neg h]; exact Nat.zero_le _
set_option maxHeartbeats 4000000 in
set_option maxRecDepth 100000 in
theorem of_any (a : Nat) (b : Int) (A : Option Addr) (c : Nat) (w : World) {B : Nat} (h : BinR B w A c a) (ha : a ≤ 128) (hb1 : -1000 ≤ b) (hb2 : b ≤ 1000) :
    Calls Tryz.prog 84 #[.slice A (a + 1) c, .int .i64 b] w fun e w' => (∃ X x, e = .returned (.slice X (digs (chS a b)).length x) ∧ NR w' X x (digs (chS a b))) ∧ Below w.heap.size w w' := by
  have hai : (a : Int) ≤ 128 := by omega
  by_cases h0 : b < 0
  · have HS := Lib.hid (chS_neg (a := a) h0)
    clear h hb1 hb2
    go_enter Tryz.func84, Tryz.ntmps84
    go_wp2_with fail
    go_ret
    exact ⟨⟨none, 0, by rw [HS.out]; rfl, by rw [HS.out]; exact NR.nil _⟩, Below.refl _ _⟩
  · by_cases h1 : (a : Int) < b
    · have HS := Lib.hid (chS_above h1)
      have h2 : (a : Int) + 1 ≤ b := by omega
      clear h hb1 hb2 h1
      go_enter Tryz.func84, Tryz.ntmps84
      go_wp2_with fail
      all_goals first | omega | (go_ret; exact ⟨⟨none, 0, by rw [HS.out]; rfl, by rw [HS.out]; exact NR.nil _⟩, Below.refl _ _⟩)
    · obtain ⟨i, rfl⟩ : ∃ i : Nat, b = (i : Int) := ⟨b.toNat, by omega⟩
      obtain ⟨bb, off, X, x, rfl, hbb, hc, hn⟩ := h.at_ (i := i) (by omega)
      rw [chS_nat]
      have h2 : (i : Int) < (a : Int) + 1 := by omega
      have h3 : (0 : Int) ≤ i := by omega
      generalize digs (bin a i) = d at hc hn ⊢
      generalize hl : d.length = l at hc ⊢
      clear h hb1 hb2 h0 h1 hl
      go_enter Tryz.func84, Tryz.ntmps84
      go_wp2_with fail
      all_goals first | omega | (go_ret; exact ⟨⟨X, x, rfl, hn⟩, Below.refl _ _⟩)

theorem far3 {w : World} {g B : Nat} (h : g < B) (u0 u1 u2 : Value) : ∀ p : Addr, B ≤ p.block → (((w.setCell ⟨g, 0, none⟩ u0).setCell ⟨g, 1, none⟩ u1).setCell ⟨g, 2, none⟩ u2).cell? p = w.cell? p := fun p hp => by
  rw [World.cell?_setCell_far _ _ _ _ (by simp; omega), World.cell?_setCell_far _ _ _ _ (by simp; omega), World.cell?_setCell_far _ _ _ _ (by simp; omega)]
/-- The divisions of 2d places, k of which are marked. -/
def divC (d k n : Nat) (M : Option Addr) (cm : Nat) (O : Option Addr) (co : Nat) : Array Value := #[.int .i64 (d : Int), .slice M (k + 1) cm, .slice O (n + 1) co]
def DivR (B : Nat) (w : World) (k n : Nat) (M : Option Addr) (cm : Nat) (O : Option Addr) (co : Nat) : Prop := BinR B w M cm k ∧ BinR B w O co n
theorem DivR.below {B : Nat} {w w' : World} {k n : Nat} {M : Option Addr} {cm : Nat} {O : Option Addr} {co : Nat} (h : DivR B w k n M cm O co) (hb : Below w.heap.size w w') : DivR B w' k n M cm O co := ⟨h.1.below hb, h.2.below hb⟩
set_option maxHeartbeats 4000000 in
set_option maxRecDepth 100000 in
theorem divided_any (d k n : Nat) (w : World) (hd : d ≤ 64) (hk : k + n = 2 * d) :
    Calls Tryz.prog 50 #[.int .i64 (d : Int), .int .i64 (k : Int)] w fun e w' => (∃ M cm O co, e = .returned (.agg (divC d k n M cm O co)) ∧ DivR w.heap.size w' k n M cm O co) ∧ Below w.heap.size w w' := by
  have hdi : (d : Int) ≤ 64 := by omega
  have hki : (k : Int) ≤ 128 := by omega
  have e1 : IntKind.i64.wrap (2 * (d : Int)) = 2 * (d : Int) := by rw [IntKind.wrap_i64]; omega
  have e2 : IntKind.i64.wrap (2 * (d : Int) - (k : Int)) = (n : Int) := by rw [IntKind.wrap_i64]; omega
  have e3 : 2 * (d : Int) - (k : Int) = (n : Int) := by omega
  have HR1 : Hid (∀ W, Calls Tryz.prog 80 #[.int .i64 (k : Int)] W fun e w' => (∃ A c, e = .returned (.slice A (k + 1) c) ∧ BinR W.heap.size w' A c k) ∧ Below W.heap.size W w') := fun W => rowOf_any k W (by omega)
  have HR2 : Hid (∀ W, Calls Tryz.prog 80 #[.int .i64 (n : Int)] W fun e w' => (∃ A c, e = .returned (.slice A (n + 1) c) ∧ BinR W.heap.size w' A c n) ∧ Below W.heap.size W w') := fun W => rowOf_any n W (by omega)
  obtain ⟨W0, hW0⟩ : ∃ W, W = w.alloc (.cells #[.int .i64 0, .slice none 0 0, .slice none 0 0] 108) := ⟨_, rfl⟩
  have b0 : Hid (Below w.heap.size w W0) := by unfold Hid; rw [hW0]; exact alloc_bel w _
  have Q0 : Hid (Blk W0 w.heap.size 108 #[.int .i64 0, .slice none 0 0, .slice none 0 0]) := by unfold Hid; rw [hW0]; exact Blk.new w _ _
  have HZ0 : Hid (W0.heap.size = w.heap.size + 1) := by unfold Hid; rw [hW0]; simp
  have HW0 := Lib.hid hW0
  clear hW0 hk
  go_enter Tryz.func50, Tryz.ntmps50
  go_wp2_with (first
    | (go_at_call 80; rw [← HW0.out]; (with_reducible refine (HR1.out _).mono ?_); rintro e w1 ⟨⟨M, cm, rfl, hm⟩, hb⟩; have M1 := Lib.hid hm; have D1 := Lib.hid (bel_on b0.out hb); have HZ1 : Hid (w.heap.size < w1.heap.size) := (by unfold Hid; have := hb.size; have := HZ0.out; omega); have Q1 := Lib.hid (Q0.out.below' hb); clear hm hb)
    | (go_at_call 80; (with_reducible refine (HR2.out _).mono ?_); rintro e w2 ⟨⟨O, co, rfl, ho⟩, hb⟩; have O2 := Lib.hid ho; have M2 := Lib.hid (M1.out.below hb); have D2 := Lib.hid (bel_on D1.out hb); have Q2 := Lib.hid (Q1.out.below' hb); clear ho hb; have k0 := Q2.out.cell 0; have k1 := Q2.out.cell 1; have k2 := Q2.out.cell 2; have f0 := Q2.out.frozen 0; have f1 := Q2.out.frozen 1; have f2 := Q2.out.frozen 2))
  exact bodyPost_ret (v := .agg (divC d k n M cm O co)) (by simp [results, Tryz.f50, go_sem, divC, k0, k1, k2, f0, f1, f2]) rfl ⟨⟨M, cm, O, co, rfl, (M2.out.far (by simp) (far3 (by have := HZ0.out; omega) _ _ _)).mono b0.out.size, (O2.out.far (by simp) (far3 (by have := HZ1.out; omega) _ _ _)).mono D1.out.size⟩, ((D2.out.setCell (p := ⟨w.heap.size, 0, none⟩) (Nat.le_refl _) _).setCell (p := ⟨w.heap.size, 1, none⟩) (Nat.le_refl _) _).setCell (p := ⟨w.heap.size, 2, none⟩) (Nat.le_refl _) _⟩

set_option maxHeartbeats 4000000 in
set_option maxRecDepth 100000 in
theorem with_any (d k n x : Nat) (M : Option Addr) (cm : Nat) (O : Option Addr) (co : Nat) (w : World) {B : Nat} (h : DivR B w k n M cm O co) (hd : d ≤ 64) (hk : k + n = 2 * d) (hx : x ≤ 128) :
    Calls Tryz.prog 53 #[.agg (divC d k n M cm O co), .int .i64 (x : Int)] w fun e w' => (∃ X x', e = .returned (.slice X (digs (pick k n d x)).length x') ∧ NR w' X x' (digs (pick k n d x))) ∧ Below w.heap.size w w' := by
  have hdi : (d : Int) ≤ 64 := by omega
  have hxi : (x : Int) ≤ 128 := by omega
  have e1 : IntKind.i64.wrap ((d : Int) - (x : Int)) = (d : Int) - (x : Int) := by rw [IntKind.wrap_i64]; omega
  obtain ⟨z, hz⟩ : ∃ z, (d : Int) - (x : Int) = z := ⟨_, rfl⟩
  have e1 : IntKind.i64.wrap ((d : Int) - (x : Int)) = z := by rw [IntKind.wrap_i64]; omega
  have s1 : Sm (chS k x) := (sm_pow (m := 128) (by omega)).mono (Nat.le_trans (chS_le k x) (Nat.pow_le_pow_right (by omega) (by omega)))
  have s2 : Sm (chS n z) := (sm_pow (m := 128) (by omega)).mono (Nat.le_trans (chS_le n z) (Nat.pow_le_pow_right (by omega) (by omega)))
  have hpk : chS k (x : Int) * chS n z = pick k n d x := by rw [← hz]; exact pick_chS k n d x
  have s3 : Sm (chS k (x : Int) * chS n z) := by rw [hpk]; exact (sm_pow (m := 128) (by omega)).mono (Nat.le_trans (pick_le_ k n d x) (Nat.pow_le_pow_right (by omega) (by omega)))
  have HO1 : Hid (∀ W, Below w.heap.size w W → Calls Tryz.prog 84 #[.slice M (k + 1) cm, .int .i64 (x : Int)] W fun e w' => (∃ X x', e = .returned (.slice X (digs (chS k x)).length x') ∧ NR w' X x' (digs (chS k x))) ∧ Below W.heap.size W w') := fun W hW => of_any k x M cm W (h.1.below hW) (by omega) (by omega) (by omega)
  have HO2 : Hid (∀ W, Below w.heap.size w W → Calls Tryz.prog 84 #[.slice O (n + 1) co, .int .i64 z] W fun e w' => (∃ X x', e = .returned (.slice X (digs (chS n z)).length x') ∧ NR w' X x' (digs (chS n z))) ∧ Below W.heap.size W w') := fun W hW => of_any n z O co W (h.2.below hW) (by omega) (by omega) (by omega)
  have HTM : Hid (∀ A' c' B' d' W, NR W A' c' (digs (chS k x)) → NR W B' d' (digs (chS n z)) → Calls Tryz.prog 83 #[.slice A' (digs (chS k x)).length c', .slice B' (digs (chS n z)).length d'] W fun e w' => (∃ A c, e = .returned (.tuple #[.slice A (digs (pick k n d x)).length c, .int .i64 0]) ∧ NR w' A c (digs (pick k n d x))) ∧ Below W.heap.size W w') := fun A' c' B' d' W h1 h2 => by rw [← hpk]; exact mulD_any s3 s1 s2 rfl rfl h1 h2
  have HMU : Hid (∀ A n c W, Calls Tryz.prog 51 #[.slice A n c, .int .i64 0] W fun e w' => e = .returned (.slice A n c) ∧ Below W.heap.size W w') := fun A n c W => must_any A n c 0 W
  generalize digs (pick k n d x) = dp at HTM ⊢
  generalize digs (chS k x) = d1 at HO1 HTM
  generalize digs (chS n z) = d2 at HO2 HTM
  generalize dp.length = lp at HTM ⊢
  generalize d1.length = l1 at HO1 HTM
  generalize d2.length = l2 at HO2 HTM
  obtain ⟨W0, hW0⟩ : ∃ W, W = w.alloc (.cells (divC d k n M cm O co) 108) := ⟨_, rfl⟩
  have b0 : Hid (Below w.heap.size w W0) := by unfold Hid; rw [hW0]; exact alloc_bel w _
  have Q0 : Hid (Blk W0 w.heap.size 108 (divC d k n M cm O co)) := by unfold Hid; rw [hW0]; exact Blk.new w _ _
  have HW0 := Lib.hid hW0
  clear hW0 hk h hd hx hz s1 s2 s3 hpk
  go_enter Tryz.func53, Tryz.ntmps53
  go_wp2_with fail
  rw [← HW0.out]

  have HS : Hid (∀ W, Below W0.heap.size W0 W → W.cell? ⟨w.heap.size, 0, none⟩ = some (.int .i64 (d : Int)) ∧ W.cell? ⟨w.heap.size, 1, none⟩ = some (.slice M (k + 1) cm) ∧ W.cell? ⟨w.heap.size, 2, none⟩ = some (.slice O (n + 1) co)) := fun W hW => ⟨(Q0.out.below' hW).cell 0, (Q0.out.below' hW).cell 1, (Q0.out.below' hW).cell 2⟩
  have E0 : Below W0.heap.size W0 W0 := Below.refl _ _
  refine wp_region_noPanic ?_
  refine wp_region_held_drew (S := fun W => W.cell? ⟨w.heap.size, 0, none⟩ = some (.int .i64 (d : Int)) ∧ W.cell? ⟨w.heap.size, 1, none⟩ = some (.slice M (k + 1) cm) ∧ W.cell? ⟨w.heap.size, 2, none⟩ = some (.slice O (n + 1) co)) (by kernel_rfl) (HS.out _ E0.drew) (fun hS => ?_)
  have E0 := E0.drew
  refine hd_take 0 (_) rfl rfl (by kernel_rfl) (by kernel_rfl) (by kernel_rfl) (fun _ _ _ h => h) (fun w hw => by go_simp <;> rfl) hS ?_
  simp only [List.getElem_toArray, List.getElem_cons_succ, List.getElem_cons_zero, Act.put, List.setIfInBounds_toArray, List.set_cons_zero, List.set_cons_succ]
  refine hd_take 1 (.slice M (k + 1) cm) rfl rfl (by kernel_rfl) (by kernel_rfl) (by kernel_rfl) (fun _ _ _ h => h) (fun w hw => by have hx := hw.2.1; simp [go_sem, hx]) hS ?_
  simp only [List.getElem_toArray, List.getElem_cons_succ, List.getElem_cons_zero, Act.put, List.setIfInBounds_toArray, List.set_cons_zero, List.set_cons_succ]
  refine hd_take 2 (_) rfl rfl (by kernel_rfl) (by kernel_rfl) (by kernel_rfl) (fun _ _ _ h => h) (fun w hw => by go_simp <;> rfl) hS ?_
  simp only [List.getElem_toArray, List.getElem_cons_succ, List.getElem_cons_zero, Act.put, List.setIfInBounds_toArray, List.set_cons_zero, List.set_cons_succ]
  refine hd_take 4 (_) rfl rfl (by kernel_rfl) (by kernel_rfl) (by kernel_rfl) (fun _ _ _ h => h) (fun w hw => by go_simp <;> rfl) hS ?_
  simp only [List.getElem_toArray, List.getElem_cons_succ, List.getElem_cons_zero, Act.put, List.setIfInBounds_toArray, List.set_cons_zero, List.set_cons_succ]
  refine hd_take 5 (.slice O (n + 1) co) rfl rfl (by kernel_rfl) (by kernel_rfl) (by kernel_rfl) (fun _ _ _ h => h) (fun w hw => by have hx := hw.2.2; simp [go_sem, hx]) hS ?_
  simp only [List.getElem_toArray, List.getElem_cons_succ, List.getElem_cons_zero, Act.put, List.setIfInBounds_toArray, List.set_cons_zero, List.set_cons_succ]
  refine hd_take 6 (_) rfl rfl (by kernel_rfl) (by kernel_rfl) (by kernel_rfl) (fun _ _ _ h => h) (fun w hw => by go_simp <;> rfl) hS ?_
  simp only [List.getElem_toArray, List.getElem_cons_succ, List.getElem_cons_zero, Act.put, List.setIfInBounds_toArray, List.set_cons_zero, List.set_cons_succ]
  refine hd_take 7 (.int .i64 (d : Int)) rfl rfl (by kernel_rfl) (by kernel_rfl) (by kernel_rfl) (fun _ _ _ h => h) (fun w hw => by have hx := hw.1; simp [go_sem, hx]) hS ?_
  simp only [List.getElem_toArray, List.getElem_cons_succ, List.getElem_cons_zero, Act.put, List.setIfInBounds_toArray, List.set_cons_zero, List.set_cons_succ]
  refine hd_take 8 (_) rfl rfl (by kernel_rfl) (by kernel_rfl) (by kernel_rfl) (fun _ _ _ h => h) (fun w hw => by go_simp <;> rfl) hS ?_
  simp only [List.getElem_toArray, List.getElem_cons_succ, List.getElem_cons_zero, Act.put, List.setIfInBounds_toArray, List.set_cons_zero, List.set_cons_succ]
  refine hd_take 9 (.int .i64 z) rfl rfl (by kernel_rfl) (by kernel_rfl) (by kernel_rfl) (fun _ _ _ h => h) (fun w hw => by have hx := e1; simp [go_sem, hx]) hS ?_
  simp only [List.getElem_toArray, List.getElem_cons_succ, List.getElem_cons_zero, Act.put, List.setIfInBounds_toArray, List.set_cons_zero, List.set_cons_succ]
  refine hd_calls 3 84 #[.slice M (k + 1) cm, .int .i64 (x : Int)] rfl rfl (by kernel_rfl) (by go_simp <;> rfl) ?_
  refine (HO1.out _ (bel_on b0.out E0)).mono ?_
  rintro e y1 ⟨⟨oA, oc, rfl, ho⟩, hb⟩
  have E1_ := bel_on E0 hb
  have hS1_ := HS.out _ E1_
  clear hb
  refine ⟨_, rfl, hS1_, ?_⟩
  simp only [List.getElem_toArray, List.getElem_cons_succ, List.getElem_cons_zero, Act.put, List.setIfInBounds_toArray, List.set_cons_zero, List.set_cons_succ]
  refine hd_calls 10 84 #[.slice O (n + 1) co, .int .i64 z] rfl rfl (by kernel_rfl) (by go_simp <;> rfl) ?_
  refine (HO2.out _ (bel_on b0.out E1_)).mono ?_
  rintro e y2 ⟨⟨qA, qc, rfl, hq⟩, hb⟩
  have E2_ := bel_on E1_ hb
  have hS2_ := HS.out _ E2_
  have ho := ho.below hb
  clear hb
  refine ⟨_, rfl, hS2_, ?_⟩
  simp only [List.getElem_toArray, List.getElem_cons_succ, List.getElem_cons_zero, Act.put, List.setIfInBounds_toArray, List.set_cons_zero, List.set_cons_succ]
  refine hd_calls 11 83 #[.slice oA l1 oc, .slice qA l2 qc] rfl rfl (by kernel_rfl) (by go_simp <;> rfl) ?_
  refine (HTM.out _ _ _ _ _ ho hq).mono ?_
  rintro e y3 ⟨⟨pA, pc, rfl, hp⟩, hb⟩
  have E3_ := bel_on E2_ hb
  have hS3_ := HS.out _ E3_
  clear hb
  refine ⟨_, rfl, hS3_, ?_⟩
  simp only [List.getElem_toArray, List.getElem_cons_succ, List.getElem_cons_zero, Act.put, List.setIfInBounds_toArray, List.set_cons_zero, List.set_cons_succ]
  refine hd_take 12 (_) rfl rfl (by kernel_rfl) (by kernel_rfl) (by kernel_rfl) (fun _ _ _ h => h) (fun w hw => by go_simp <;> rfl) hS3_ ?_
  simp only [List.getElem_toArray, List.getElem_cons_succ, List.getElem_cons_zero, Act.put, List.setIfInBounds_toArray, List.set_cons_zero, List.set_cons_succ]
  refine hd_take 13 (_) rfl rfl (by kernel_rfl) (by kernel_rfl) (by kernel_rfl) (fun _ _ _ h => h) (fun w hw => by go_simp <;> rfl) hS3_ ?_
  simp only [List.getElem_toArray, List.getElem_cons_succ, List.getElem_cons_zero, Act.put, List.setIfInBounds_toArray, List.set_cons_zero, List.set_cons_succ]
  refine hd_calls 14 51 #[.slice pA lp pc, .int .i64 0] rfl rfl (by kernel_rfl) (by go_simp <;> rfl) ?_
  refine (HMU.out _ _ _ _).mono ?_
  rintro e y4 ⟨rfl, hb⟩
  have E4_ := bel_on E3_ hb
  have hS4_ := HS.out _ E4_
  have hp := hp.below hb
  clear hb
  refine ⟨_, rfl, hS4_, ?_⟩
  simp only [List.getElem_toArray, List.getElem_cons_succ, List.getElem_cons_zero, Act.put, List.setIfInBounds_toArray, List.set_cons_zero, List.set_cons_succ]
  refine hd_take 15 (_) rfl rfl (by kernel_rfl) (by kernel_rfl) (by kernel_rfl) (fun _ _ _ h => h) (fun w hw => by go_simp <;> rfl) hS4_ ?_
  simp only [List.getElem_toArray, List.getElem_cons_succ, List.getElem_cons_zero, Act.put, List.setIfInBounds_toArray, List.set_cons_zero, List.set_cons_succ]
  refine wpAnyH_done (by kernel_rfl) (NoPanic.normal ?_) _
  go_wp2_with fail
  go_ret
  exact ⟨⟨pA, pc, rfl, hp⟩, bel_on b0.out E4_⟩
set_option maxHeartbeats 4000000 in
set_option maxRecDepth 100000 in
theorem all_any (d k n : Nat) (M : Option Addr) (cm : Nat) (O : Option Addr) (co : Nat) (w : World) (hd : d ≤ 64) :
    Calls Tryz.prog 54 #[.agg (divC d k n M cm O co)] w fun e w' => (∃ X x', e = .returned (.slice X (digs (bin (2 * d) d)).length x') ∧ NR w' X x' (digs (bin (2 * d) d))) ∧ Below w.heap.size w w' := by
  have hdi : (d : Int) ≤ 64 := by omega
  obtain ⟨m, hm⟩ : ∃ m, 2 * d = m := ⟨_, rfl⟩
  rw [hm]
  have e1 : IntKind.i64.wrap (2 * (d : Int)) = (m : Int) := by rw [IntKind.wrap_i64]; omega
  have HR1 : Hid (∀ W, Calls Tryz.prog 80 #[.int .i64 (m : Int)] W fun e w' => (∃ A c, e = .returned (.slice A (m + 1) c) ∧ BinR W.heap.size w' A c m) ∧ Below W.heap.size W w') := fun W => rowOf_any m W (by omega)
  have HO1 : Hid (∀ W A c B, BinR B W A c m → Calls Tryz.prog 84 #[.slice A (m + 1) c, .int .i64 (d : Int)] W fun e w' => (∃ X x', e = .returned (.slice X (digs (bin m d)).length x') ∧ NR w' X x' (digs (bin m d))) ∧ Below W.heap.size W w') := fun W A c B hA => by
    have := of_any m (d : Int) A c W hA (by omega) (by omega) (by omega)
    rwa [chS_nat] at this
  generalize digs (bin m d) = dp at HO1 ⊢
  generalize dp.length = lp at HO1 ⊢
  obtain ⟨W0, hW0⟩ : ∃ W, W = w.alloc (.cells (divC d k n M cm O co) 108) := ⟨_, rfl⟩
  have b0 : Hid (Below w.heap.size w W0) := by unfold Hid; rw [hW0]; exact alloc_bel w _
  have Q0 : Hid (Blk W0 w.heap.size 108 (divC d k n M cm O co)) := by unfold Hid; rw [hW0]; exact Blk.new w _ _
  have HW0 := Lib.hid hW0
  clear hW0 hd hm
  go_enter Tryz.func54, Tryz.ntmps54
  go_wp2_with fail
  rw [← HW0.out]

  have HS : Hid (∀ W, Below W0.heap.size W0 W → W.cell? ⟨w.heap.size, 0, none⟩ = some (.int .i64 (d : Int))) := fun W hW => (Q0.out.below' hW).cell 0
  have E0 : Below W0.heap.size W0 W0 := Below.refl _ _
  refine wp_region_noPanic ?_
  refine wp_region_held_drew (S := fun W => W.cell? ⟨w.heap.size, 0, none⟩ = some (.int .i64 (d : Int))) (by kernel_rfl) (HS.out _ E0.drew) (fun hS => ?_)
  have E0 := E0.drew
  refine hd_take 0 (_) rfl rfl (by kernel_rfl) (by kernel_rfl) (by kernel_rfl) (fun _ _ _ h => h) (fun w hw => by go_simp <;> rfl) hS ?_
  simp only [List.getElem_toArray, List.getElem_cons_succ, List.getElem_cons_zero, Act.put, List.setIfInBounds_toArray, List.set_cons_zero, List.set_cons_succ]
  refine hd_take 1 (.int .i64 (d : Int)) rfl rfl (by kernel_rfl) (by kernel_rfl) (by kernel_rfl) (fun _ _ _ h => h) (fun w hw => by have hx := hw; simp [go_sem, hx]) hS ?_
  simp only [List.getElem_toArray, List.getElem_cons_succ, List.getElem_cons_zero, Act.put, List.setIfInBounds_toArray, List.set_cons_zero, List.set_cons_succ]
  refine hd_take 2 (.int .i64 (m : Int)) rfl rfl (by kernel_rfl) (by kernel_rfl) (by kernel_rfl) (fun _ _ _ h => h) (fun w hw => by have hx := e1; simp [go_sem, hx]) hS ?_
  simp only [List.getElem_toArray, List.getElem_cons_succ, List.getElem_cons_zero, Act.put, List.setIfInBounds_toArray, List.set_cons_zero, List.set_cons_succ]
  refine hd_take 4 (_) rfl rfl (by kernel_rfl) (by kernel_rfl) (by kernel_rfl) (fun _ _ _ h => h) (fun w hw => by go_simp <;> rfl) hS ?_
  simp only [List.getElem_toArray, List.getElem_cons_succ, List.getElem_cons_zero, Act.put, List.setIfInBounds_toArray, List.set_cons_zero, List.set_cons_succ]
  refine hd_take 5 (.int .i64 (d : Int)) rfl rfl (by kernel_rfl) (by kernel_rfl) (by kernel_rfl) (fun _ _ _ h => h) (fun w hw => by have hx := hw; simp [go_sem, hx]) hS ?_
  simp only [List.getElem_toArray, List.getElem_cons_succ, List.getElem_cons_zero, Act.put, List.setIfInBounds_toArray, List.set_cons_zero, List.set_cons_succ]
  refine hd_calls 3 80 #[.int .i64 (m : Int)] rfl rfl (by kernel_rfl) (by go_simp <;> rfl) ?_
  refine (HR1.out _).mono ?_
  rintro e y1 ⟨⟨oA, oc, rfl, ho⟩, hb⟩
  have E1_ := bel_on E0 hb
  have hS1_ := HS.out _ E1_
  clear hb
  refine ⟨_, rfl, hS1_, ?_⟩
  simp only [List.getElem_toArray, List.getElem_cons_succ, List.getElem_cons_zero, Act.put, List.setIfInBounds_toArray, List.set_cons_zero, List.set_cons_succ]
  refine hd_calls 6 84 #[.slice oA (m + 1) oc, .int .i64 (d : Int)] rfl rfl (by kernel_rfl) (by go_simp <;> rfl) ?_
  refine (HO1.out _ _ _ _ ho).mono ?_
  rintro e y2 ⟨⟨pA, pc, rfl, hp⟩, hb⟩
  have E2_ := bel_on E1_ hb
  have hS2_ := HS.out _ E2_
  clear hb
  refine ⟨_, rfl, hS2_, ?_⟩
  simp only [List.getElem_toArray, List.getElem_cons_succ, List.getElem_cons_zero, Act.put, List.setIfInBounds_toArray, List.set_cons_zero, List.set_cons_succ]
  refine hd_take 7 (_) rfl rfl (by kernel_rfl) (by kernel_rfl) (by kernel_rfl) (fun _ _ _ h => h) (fun w hw => by go_simp <;> rfl) hS2_ ?_
  simp only [List.getElem_toArray, List.getElem_cons_succ, List.getElem_cons_zero, Act.put, List.setIfInBounds_toArray, List.set_cons_zero, List.set_cons_succ]
  refine wpAnyH_done (by kernel_rfl) (NoPanic.normal ?_) _
  go_wp2_with fail
  go_ret
  exact ⟨⟨pA, pc, rfl, hp⟩, bel_on b0.out E2_⟩
end Go.Proofs.YtchnaimpmegbkaaGreatDoor

/- Codes of steps in plain words: thresholds, the arrangement, words, weights, names, completeness. -/
namespace Go.Proofs.YtchnaimpmegbkaaGreatDoor
set_option linter.unusedVariables false

/-- How many of the first numbers in a row have a property, up to n of them. -/
def lead (P : Nat → Bool) : Nat → Nat
  | 0 => 0
  | n + 1 => if lead P n = n ∧ P n = true then n + 1 else lead P n
theorem lead_le (P : Nat → Bool) : ∀ n, lead P n ≤ n
  | 0 => Nat.le_refl _
  | n + 1 => by
    have := lead_le P n
    unfold lead
    split <;> omega
theorem lead_go {P : Nat → Bool} {x : Nat} (h : lead P x = x) (hp : P x = true) : lead P (x + 1) = x + 1 := by rw [lead, if_pos ⟨h, hp⟩]
theorem lead_stop {P : Nat → Bool} {x : Nat} (h : lead P x = x) (hp : P x = false) : ∀ {n : Nat}, x < n → lead P n = x
  | 0, hx => by omega
  | n + 1, hx => by
    rw [lead]
    rcases Nat.lt_or_ge x n with h1 | h1
    · have := lead_stop h hp h1
      rw [this, if_neg (by omega)]
    · obtain rfl : x = n := by omega
      rw [if_neg (by rw [hp]; simp), h]
theorem lead_all {P : Nat → Bool} : ∀ {n x : Nat}, x < lead P n → P x = true
  | 0, x, h => by simp [lead] at h
  | n + 1, x, h => by
    rw [lead] at h
    split at h
    · rename_i h1
      rcases Nat.lt_or_ge x n with h2 | h2
      · exact lead_all (n := n) (by omega)
      · obtain rfl : x = n := by omega
        exact h1.2
    · exact lead_all h
theorem lead_end {P : Nat → Bool} : ∀ {n : Nat}, lead P n < n → P (lead P n) = false
  | 0, h => by omega
  | n + 1, h => by
    rw [lead] at h ⊢
    split at h
    · omega
    · rename_i h1
      rw [if_neg h1]
      rcases Nat.lt_or_ge (lead P n) n with h2 | h2
      · exact lead_end h2
      · have h3 := lead_le P n
        have h4 : lead P n = n := by omega
        rw [h4]
        cases hp : P n
        · rfl
        · exact absurd ⟨h4, hp⟩ h1
/-- The divisions with at most x marked places in the first block are at most the share num / den of all. -/
def underB (d k num den x : Nat) : Bool := decide (divsN d k (x + 1) * den ≤ num * bin (2 * d) d)
/-- The threshold. -/
def thS (d k num den : Nat) : Int := (lead (underB d k num den) (k + 1) : Int) - 1

/-- Two places are exchanged. -/
def swapL (l : List Nat) (i j : Nat) : List Nat := (l.set i (l.getD j 0)).set j (l.getD i 0)
theorem swapL_length (l : List Nat) (i j : Nat) : (swapL l i j).length = l.length := by simp [swapL]
theorem swapL_get {l : List Nat} {i j p : Nat} (hi : i < l.length) (hj : j < l.length) (hp : p < l.length) : (swapL l i j).getD p 0 = l.getD (if p = j then i else if p = i then j else p) 0 := by
  unfold swapL
  simp only [List.getD_eq_getElem?_getD, List.getElem?_set, List.length_set]
  by_cases h1 : p = j
  · subst h1; simp [hj]
  · rw [if_neg (fun e => h1 e.symm), if_neg h1]
    by_cases h2 : p = i
    · subst h2; simp [hi]
    · rw [if_neg (fun e => h2 e.symm), if_neg h2]
/-- An arrangement of n places: all in range, no place twice. -/
def ArrL (l : List Nat) (n : Nat) : Prop := l.length = n ∧ (∀ p, p < n → l.getD p 0 < n) ∧ ∀ p q, p < n → q < n → l.getD p 0 = l.getD q 0 → p = q
theorem arr_range (n : Nat) : ArrL (List.range n) n := by
  have h : ∀ p, p < n → (List.range n).getD p 0 = p := fun p hp => by simp [List.getD_eq_getElem?_getD, hp]
  exact ⟨by simp, fun p hp => by rw [h p hp]; exact hp, fun p q hp hq e => by rwa [h p hp, h q hq] at e⟩
theorem arr_swap {l : List Nat} {n i j : Nat} (h : ArrL l n) (hi : i < n) (hj : j < n) : ArrL (swapL l i j) n := by
  obtain ⟨h1, h2, h3⟩ := h
  have hg : ∀ p, p < n → (swapL l i j).getD p 0 = l.getD (if p = j then i else if p = i then j else p) 0 := fun p hp => swapL_get (by omega) (by omega) (by omega)
  have hb : ∀ p, p < n → (if p = j then i else if p = i then j else p) < n := fun p hp => by
    by_cases a : p = j
    · rw [if_pos a]; exact hi
    · rw [if_neg a]
      by_cases b : p = i
      · rw [if_pos b]; exact hj
      · rw [if_neg b]; exact hp
  refine ⟨by rw [swapL_length, h1], fun p hp => by rw [hg p hp]; exact h2 _ (hb p hp), fun p q hp hq e => ?_⟩
  rw [hg p hp, hg q hq] at e
  have e2 := h3 _ _ (hb p hp) (hb q hq) e
  clear hg hb e h1 h2 h3
  generalize he : (if p = j then i else if p = i then j else p) = u at e2
  generalize hf : (if q = j then i else if q = i then j else q) = v at e2
  subst e2
  by_cases a1 : p = j
  · rw [if_pos a1] at he
    by_cases b1 : q = j
    · omega
    · rw [if_neg b1] at hf
      by_cases b2 : q = i
      · rw [if_pos b2] at hf; omega
      · rw [if_neg b2] at hf; omega
  · rw [if_neg a1] at he
    by_cases a2 : p = i
    · rw [if_pos a2] at he
      by_cases b1 : q = j
      · rw [if_pos b1] at hf; omega
      · rw [if_neg b1] at hf
        by_cases b2 : q = i
        · omega
        · rw [if_neg b2] at hf; omega
    · rw [if_neg a2] at he
      by_cases b1 : q = j
      · rw [if_pos b1] at hf; omega
      · rw [if_neg b1] at hf
        by_cases b2 : q = i
        · rw [if_pos b2] at hf; omega
        · rw [if_neg b2] at hf; omega
/-- The exchanges from the place i down. -/
def arrD (num : Nat → Nat) : Nat → List Nat → List Nat
  | 0, l => l
  | i + 1, l => arrD num i (swapL l (i + 1) (num (i + 1)))
def arrS (num : Nat → Nat) (n : Nat) : List Nat := arrD num (n - 1) (List.range n)
theorem arr_arrD {num : Nat → Nat} {n : Nat} (hn : ∀ i, i < n → num i ≤ i) : ∀ {i : Nat} {l : List Nat}, i < n → ArrL l n → ArrL (arrD num i l) n
  | 0, _, _, h => h
  | i + 1, l, hi, h => arr_arrD (l := swapL l (i + 1) (num (i + 1))) hn (by omega) (arr_swap h hi (by have := hn (i + 1) hi; omega))
theorem arr_arrS {num : Nat → Nat} {n : Nat} (hn : ∀ i, i < n → num i ≤ i) : ArrL (arrS num n) n := by
  rcases Nat.eq_zero_or_pos n with rfl | h
  · exact arr_range 0
  · exact arr_arrD hn (by omega) (arr_range n)

/-- A word: the columns from lo on, the first i of all looked at. -/
def wordF (at_ : List Nat) (n lo : Nat) : Nat → List UInt8
  | 0 => List.replicate n 0
  | i + 1 => if lo ≤ i then (wordF at_ n lo i).set (at_.getD i 0) 1 else wordF at_ n lo i
theorem wordF_length (at_ : List Nat) (n lo : Nat) : ∀ i, (wordF at_ n lo i).length = n
  | 0 => by simp [wordF]
  | i + 1 => by rw [wordF]; split <;> simp [wordF_length at_ n lo i]
theorem wordF_low (at_ : List Nat) (n lo : Nat) : ∀ {i}, i ≤ lo → wordF at_ n lo i = List.replicate n 0
  | 0, _ => rfl
  | i + 1, h => by rw [wordF, if_neg (by omega), wordF_low at_ n lo (by omega)]
theorem wordF_yes {at_ : List Nat} {n lo i : Nat} (h : lo ≤ i) : wordF at_ n lo (i + 1) = (wordF at_ n lo i).set (at_.getD i 0) 1 := by rw [wordF, if_pos h]
theorem wordF_no {at_ : List Nat} {n lo i : Nat} (h : i < lo) : wordF at_ n lo (i + 1) = wordF at_ n lo i := by rw [wordF, if_neg (by omega)]
/-- The symbol of a column. -/
theorem wordF_get {at_ : List Nat} {n lo : Nat} (ha : ArrL at_ n) : ∀ {i p : Nat}, i ≤ n → p < n → (wordF at_ n lo i).getD (at_.getD p 0) 0 = if lo ≤ p ∧ p < i then 1 else 0
  | 0, p, _, hp => by
    rw [if_neg (by omega)]
    have := ha.2.1 p hp
    rw [wordF, List.getD_eq_getElem?_getD, List.getElem?_replicate, if_pos this]; rfl
  | i + 1, p, hi, hp => by
    have ih := wordF_get (lo := lo) ha (i := i) (p := p) (by omega) hp
    have hl := wordF_length at_ n lo i
    have hb := ha.2.1 p hp
    by_cases h : lo ≤ i
    · rw [wordF_yes h, List.getD_eq_getElem?_getD, List.getElem?_set]
      by_cases e : at_.getD i 0 = at_.getD p 0
      · have := ha.2.2 i p (by omega) hp e
        subst this
        rw [if_pos e, if_pos (by rw [hl]; exact ha.2.1 i hp), if_pos ⟨h, by omega⟩]; rfl
      · rw [if_neg e, ← List.getD_eq_getElem?_getD, ih]
        have : i ≠ p := fun e' => e (by rw [e'])
        by_cases h2 : lo ≤ p ∧ p < i
        · rw [if_pos h2, if_pos (by omega)]
        · rw [if_neg h2, if_neg (by omega)]
    · rw [wordF_no (by omega), ih]
      by_cases h2 : lo ≤ p ∧ p < i
      · rw [if_pos h2, if_pos (by omega)]
      · rw [if_neg h2, if_neg (by omega)]
def stepWord (at_ : List Nat) (n lo : Nat) : List UInt8 := wordF at_ n lo n
theorem stepWord_length (at_ : List Nat) (n lo : Nat) : (stepWord at_ n lo).length = n := wordF_length _ _ _ _
theorem wordF_bit (at_ : List Nat) (n lo : Nat) : ∀ (i p : Nat), ((wordF at_ n lo i).getD p 0).toNat ≤ 1
  | 0, p => by
    simp only [wordF, List.getD_eq_getElem?_getD, List.getElem?_replicate]
    split <;> simp
  | i + 1, p => by
    rw [wordF]
    split
    · rw [List.getD_eq_getElem?_getD, List.getElem?_set]
      split
      · split <;> simp
      · rw [← List.getD_eq_getElem?_getD]; exact wordF_bit at_ n lo i p
    · exact wordF_bit at_ n lo i p

/-- The weights, the first i columns looked at. -/
def weightF (at_ : List Nat) (y : List UInt8) (B m : Nat) : Nat → List Nat
  | 0 => List.replicate m 0
  | i + 1 => if y.getD (at_.getD i 0) 0 = 1 then (weightF at_ y B m i).set (i / B) ((weightF at_ y B m i).getD (i / B) 0 + 1) else weightF at_ y B m i
theorem weightF_length (at_ : List Nat) (y : List UInt8) (B m : Nat) : ∀ i, (weightF at_ y B m i).length = m
  | 0 => by simp [weightF]
  | i + 1 => by rw [weightF]; split <;> simp [weightF_length at_ y B m i]
theorem weightF_yes {at_ : List Nat} {y : List UInt8} {B m i : Nat} (h : y.getD (at_.getD i 0) 0 = 1) : weightF at_ y B m (i + 1) = (weightF at_ y B m i).set (i / B) ((weightF at_ y B m i).getD (i / B) 0 + 1) := by rw [weightF, if_pos h]
theorem weightF_no {at_ : List Nat} {y : List UInt8} {B m i : Nat} (h : ¬ y.getD (at_.getD i 0) 0 = 1) : weightF at_ y B m (i + 1) = weightF at_ y B m i := by rw [weightF, if_neg h]
/-- The weight of a block, counted. -/
theorem weightF_get (at_ : List Nat) (y : List UInt8) (B m : Nat) : ∀ {i b : Nat}, b < m → (weightF at_ y B m i).getD b 0 = sumN (fun j => if j / B = b ∧ y.getD (at_.getD j 0) 0 = 1 then 1 else 0) i
  | 0, b, hb => by simp [weightF, sumN, List.getD_eq_getElem?_getD, hb]
  | i + 1, b, hb => by
    have ih := weightF_get at_ y B m (i := i) hb
    have hl := weightF_length at_ y B m i
    rw [sumN_succ, ← ih]
    by_cases h : y.getD (at_.getD i 0) 0 = 1
    · rw [weightF_yes h, List.getD_eq_getElem?_getD, List.getElem?_set]
      by_cases e : i / B = b
      · subst e
        rw [if_pos rfl, if_pos (by rw [hl]; exact hb), if_pos ⟨rfl, h⟩]; rfl
      · rw [if_neg e, if_neg (fun h => e h.1), ← List.getD_eq_getElem?_getD]; rfl
    · rw [weightF_no h, if_neg (fun h' => h h'.2)]; rfl
theorem block_sum (B b : Nat) (hB : 0 < B) : ∀ n, sumN (fun j => if j / B = b then 1 else 0) n = min n ((b + 1) * B) - min n (b * B)
  | 0 => by simp [sumN]
  | n + 1 => by
    rw [sumN_succ, block_sum B b hB n]
    have e : (b + 1) * B = b * B + B := by rw [Nat.add_mul, Nat.one_mul]
    have hd : n / B = b ↔ b * B ≤ n ∧ n < b * B + B := by
      rw [← e, Nat.div_eq_iff hB]
      constructor
      · rintro ⟨h1, h2⟩; exact ⟨h1, by rw [e]; omega⟩
      · rintro ⟨h1, h2⟩; exact ⟨h1, by rw [e] at h2; omega⟩
    by_cases h : n / B = b
    · rw [if_pos h]; have := hd.1 h; omega
    · rw [if_neg h]
      have : ¬ (b * B ≤ n ∧ n < b * B + B) := fun h' => h (hd.2 h')
      omega
theorem weightF_le (at_ : List Nat) (y : List UInt8) (B m : Nat) (hB : 0 < B) {i b : Nat} (hb : b < m) : (weightF at_ y B m i).getD b 0 ≤ B := by
  rw [weightF_get at_ y B m hb]
  refine Nat.le_trans (sumN_le (g := fun j => if j / B = b then 1 else 0) fun j _ => ?_) ?_
  · split
    · rename_i h; rw [if_pos h.1]; omega
    · exact Nat.zero_le _
  · rw [block_sum B b hB]
    have e : (b + 1) * B = b * B + B := by rw [Nat.add_mul, Nat.one_mul]
    omega
def weightsS (at_ : List Nat) (y : List UInt8) (B m : Nat) : List Nat := weightF at_ y B m at_.length

/-- Whether a user is named for some weights. -/
def namedB (users B num den : Nat) (w : List Nat) (u : Nat) : Bool :=
  if u = 0 then decide (0 < w.getD 0 0) else if u + 1 = users then decide (w.getD (u - 1) 0 < B) else decide ((w.getD (u - 1) 0 : Int) ≤ thS B (w.getD (u - 1) 0 + w.getD u 0) num den)
def namesF (P : Nat → Bool) : Nat → List Int
  | 0 => []
  | u + 1 => if P u = true then namesF P u ++ [(u : Int)] else namesF P u
theorem namesF_yes {P : Nat → Bool} {u : Nat} (h : P u = true) : namesF P (u + 1) = namesF P u ++ [(u : Int)] := by rw [namesF, if_pos h]
theorem namesF_no {P : Nat → Bool} {u : Nat} (h : P u = false) : namesF P (u + 1) = namesF P u := by rw [namesF, if_neg (by rw [h]; simp)]
theorem namesF_length (P : Nat → Bool) : ∀ n, (namesF P n).length ≤ n
  | 0 => Nat.le_refl _
  | n + 1 => by
    have := namesF_length P n
    rw [namesF]
    split
    · simp; omega
    · omega
theorem namesF_mem {P : Nat → Bool} : ∀ {n : Nat} {x : Int}, x ∈ namesF P n ↔ ∃ u : Nat, u < n ∧ P u = true ∧ x = (u : Int)
  | 0, x => by simp [namesF]
  | n + 1, x => by
    rw [namesF]
    split
    · rename_i h
      rw [List.mem_append, namesF_mem, List.mem_singleton]
      constructor
      · rintro (⟨u, h1, h2, h3⟩ | rfl)
        · exact ⟨u, by omega, h2, h3⟩
        · exact ⟨n, by omega, h, rfl⟩
      · rintro ⟨u, h1, h2, h3⟩
        by_cases e : u = n
        · subst e; exact .inr h3
        · exact .inl ⟨u, by omega, h2, h3⟩
    · rename_i h
      rw [namesF_mem]
      constructor
      · rintro ⟨u, h1, h2, h3⟩; exact ⟨u, by omega, h2, h3⟩
      · rintro ⟨u, h1, h2, h3⟩
        refine ⟨u, ?_, h2, h3⟩
        rcases Nat.lt_or_ge u n with h4 | h4
        · exact h4
        · obtain rfl : u = n := by omega
          exact absurd h2 h
def namesS (users B num den : Nat) (w : List Nat) : List Int := namesF (namedB users B num den w) users

end Go.Proofs.YtchnaimpmegbkaaGreatDoor

/- Codes of steps in plain words: sums over the columns; words, weights and names of words; what a complete code names. -/
namespace Go.Proofs.YtchnaimpmegbkaaGreatDoor
set_option linter.unusedVariables false

theorem stepWord_get {at_ : List Nat} {n lo : Nat} (ha : ArrL at_ n) {p : Nat} (hp : p < n) : (stepWord at_ n lo).getD (at_.getD p 0) 0 = if lo ≤ p then 1 else 0 := by
  unfold stepWord
  rw [wordF_get ha (Nat.le_refl _) hp]
  by_cases h : lo ≤ p
  · rw [if_pos ⟨h, hp⟩, if_pos h]
  · rw [if_neg (fun h' => h h'.1), if_neg h]
theorem ArrL.len {l : List Nat} {n : Nat} (h : ArrL l n) : l.length = n := h.1
/-- The weights of a word of a user. -/
theorem word_weights {at_ : List Nat} {B m u : Nat} (ha : ArrL at_ (m * B)) (hB : 0 < B) {b : Nat} (hb : b < m) : (weightsS at_ (stepWord at_ (m * B) (u * B)) B m).getD b 0 = if u ≤ b then B else 0 := by
  unfold weightsS
  rw [weightF_get _ _ _ _ hb, ha.len]
  by_cases h : u ≤ b
  · rw [if_pos h]
    have e : sumN (fun j => if j / B = b ∧ (stepWord at_ (m * B) (u * B)).getD (at_.getD j 0) 0 = 1 then 1 else 0) (m * B) = sumN (fun j => if j / B = b then 1 else 0) (m * B) := sumN_congr fun j hj => by
      by_cases e : j / B = b
      · have h1 : u * B ≤ j := Nat.le_trans (Nat.mul_le_mul_right B h) (by rw [← e]; exact Nat.div_mul_le_self j B)
        rw [stepWord_get ha hj, if_pos h1, if_pos ⟨e, rfl⟩, if_pos e]
      · rw [if_neg (fun h => e h.1), if_neg e]
    rw [e, block_sum B b hB]
    have h1 := Nat.mul_le_mul_right B (show b + 1 ≤ m by omega)
    have h2 : (b + 1) * B = b * B + B := by rw [Nat.add_mul, Nat.one_mul]
    omega
  · rw [if_neg h]
    refine sumN_zero fun j hj => ?_
    by_cases e : j / B = b
    · have h1 : j < u * B := (Nat.div_lt_iff_lt_mul hB).1 (by rw [e]; omega)
      rw [stepWord_get ha hj, if_neg (show ¬ u * B ≤ j by omega)]; simp
    · rw [if_neg (fun h => e h.1)]
/-- The threshold is below 0 just if not even no marked place is below the limit. -/
theorem thS_neg (d k num den : Nat) : thS d k num den < 0 ↔ underB d k num den 0 = false := by
  unfold thS
  constructor
  · intro h
    cases hu : underB d k num den 0
    · rfl
    · have h1 : lead (underB d k num den) 1 = 1 := lead_go (x := 0) rfl hu
      have h2 : ∀ n, 1 ≤ lead (underB d k num den) (n + 1) := by
        intro n
        induction n with
        | zero => exact Nat.le_of_eq h1.symm
        | succ n ih => rw [lead]; split <;> omega
      have := h2 k
      omega
  · intro h
    rw [lead_stop (P := underB d k num den) (x := 0) (n := k + 1) rfl h (by omega)]
    decide
theorem thS_ge (d k num den : Nat) : -1 ≤ thS d k num den := by unfold thS; omega
theorem bin_pos : ∀ {a b : Nat}, b ≤ a → 0 < bin a b
  | a, 0, _ => by rw [bin_zero]; omega
  | 0, b + 1, h => by omega
  | a + 1, b + 1, h => by
    have := bin_pos (a := a) (b := b) (by omega)
    rw [bin_succ]; omega
/-- Below the limit 1 not all divisions are. -/
theorem thS_lt {d k num den : Nat} (hk : k ≤ 2 * d) (hl : num < den) : thS d k num den < k := by
  unfold thS
  have h1 := lead_le (underB d k num den) (k + 1)
  rcases Nat.lt_or_ge k (lead (underB d k num den) (k + 1)) with h | h
  · have h2 := lead_all h
    unfold underB at h2
    rw [divsN_all hk] at h2
    simp only [decide_eq_true_eq] at h2
    have h3 := bin_pos (a := 2 * d) (b := d) (by omega)
    have h4 := Nat.mul_lt_mul_of_pos_left hl h3
    rw [Nat.mul_comm (bin (2 * d) d) num] at h4
    omega
  · omega
theorem thS_under {d k num den : Nat} {x : Nat} (h : (x : Int) ≤ thS d k num den) : divsN d k (x + 1) * den ≤ num * bin (2 * d) d := by
  unfold thS at h
  have := lead_all (P := underB d k num den) (n := k + 1) (x := x) (by omega)
  simpa [underB] using this
theorem thS_over {d k num den : Nat} (h : thS d k num den < k) : num * bin (2 * d) d < divsN d k ((thS d k num den + 2).toNat) * den := by
  unfold thS at h ⊢
  have := lead_end (P := underB d k num den) (n := k + 1) (by omega)
  simp only [underB, decide_eq_false_iff_not, Nat.not_le] at this
  rw [show ((lead (underB d k num den) (k + 1) : Int) - 1 + 2).toNat = lead (underB d k num den) (k + 1) + 1 from by omega]
  exact this
end Go.Proofs.YtchnaimpmegbkaaGreatDoor
