/-
  Lemmas and contracts, joined: part 7.
-/
import Derived.Deep.QuietTactic
import Derived.BigQuiet
import Derived.Test.YtinpiodfpnbllaaAuditListsB6
set_option linter.unusedSimpArgs false
set_option linter.unusedVariables false
set_option linter.unnecessarySimpa false
/- Texts that are taken: the variable, the rows, their bytes. -/
namespace Go.Proofs.Ytinpiodfpnbllaa
open Go.RowKit
set_option linter.unusedVariables false
set_option linter.unusedSimpArgs false
attribute [local go_sem] run_storeCells_key run_storeCells_new

theorem Blk.ne_own {w : World} {g : Nat} {t : TypeId} {cs : Array Value} (h : Blk w g t cs) {B' : Nat} {t' : TypeId} {s' n' : Nat} {v' : Value} {xs' : List Value} (h' : w.ownsRow B' t' s' v' n' xs') (hne : t ≠ t') : some g ≠ v'.ownBlock := by
  rcases h'.2 with ⟨rfl, _⟩ | ⟨g', cap', cur', rfl, _, hh', _⟩
  · simp [Value.ownBlock]
  · intro e
    have : g = g' := by simpa [Value.ownBlock] using e
    subst this
    unfold Blk at h
    rw [h] at hh'
    injection hh' with hh'
    injection hh' with _ ht
    exact hne ht
theorem Blk.grown {w w' : World} {g : Nat} {t : TypeId} {cs : Array Value} (h : Blk w g t cs) {B' : Nat} {t' : TypeId} {s' n' : Nat} {v' : Value} {xs' : List Value} (h' : w.ownsRow B' t' s' v' n' xs') (hne : t ≠ t') (hg : w.grownBy w' v'.ownBlock) : Blk w' g t cs :=
  (hg.block g h.lt (h.ne_own h' hne)).trans h
theorem own_block_apart {w w' : World} {B : Nat} {t t' : TypeId} {s n g : Nat} {v : Value} {xs : List Value} {cs : Array Value} (h : w.ownsRow B t s v n xs) (hb : Blk w g t' cs) (hne : t' ≠ t) (hk : ∀ k, k ≠ g → w'.heap[k]? = w.heap[k]?) : w'.ownsRow B t s v n xs :=
  ⟨h.1, h.2.elim Or.inl fun ⟨g', cap, cur, hv, hB, hh, r⟩ => Or.inr ⟨g', cap, cur, hv, hB, (hk g' fun e => by
    subst e
    unfold Blk at hb
    rw [hb] at hh
    injection hh with hh
    injection hh with _ ht
    exact hne ht).trans hh, r⟩⟩
theorem own_set_apart {w : World} {B : Nat} {t t' : TypeId} {s n g : Nat} {v : Value} {xs : List Value} {cs : Array Value} (h : w.ownsRow B t s v n xs) (hb : Blk w g t' cs) (hne : t' ≠ t) (i : Nat) (u : Value) : (w.setCell ⟨g, i, none⟩ u).ownsRow B t s v n xs :=
  own_block_apart h hb hne fun k hk => Below.heap_setCell w _ u k hk
theorem own_row_apart {w : World} {B : Nat} {t t' : TypeId} {s n g : Nat} {v : Value} {xs : List Value} {cs : Array Value} (h : w.ownsRow B t s v n xs) (hb : Blk w g t' cs) (hne : t' ≠ t) (cs' : Array Value) : (w.setRow g cs').ownsRow B t s v n xs :=
  own_block_apart h hb hne fun k hk => setRow_other w g k cs' hk
theorem src_one (w : World) (v : Value) (t : TypeId) : Src (w.alloc (.cells #[v] t)) 1 (some ⟨w.heap.size, 0, none⟩) 1 [v] := by
  refine ⟨rfl, .inr ⟨_, rfl, fun j u hu => ?_⟩⟩
  rw [Addr.add_lit, Nat.zero_add, (Blk.new w t #[v]).cell j]
  simpa using hu

/-- Keys in memory stay as they are. -/
def KeepT (w w' : World) : Prop := ∀ k cs, Blk w k 23 cs → Blk w' k 23 cs
theorem KeepT.refl (w : World) : KeepT w w := fun _ _ h => h
theorem KeepT.trans {w1 w2 w3 : World} (h : KeepT w1 w2) (h' : KeepT w2 w3) : KeepT w1 w3 := fun k cs hk => h' k cs (h k cs hk)
theorem KeepT.of_below {w w' : World} (h : Below w.heap.size w w') : KeepT w w' := fun k cs hk => hk.below' h
theorem KeepT.grown {w w' : World} {B' : Nat} {t' : TypeId} {s' n' : Nat} {v' : Value} {xs' : List Value} (h' : w.ownsRow B' t' s' v' n' xs') (hne : 23 ≠ t') (hg : w.grownBy w' v'.ownBlock) : KeepT w w' := fun k cs hk => hk.grown h' hne hg
theorem KeepT.set {w : World} {g i : Nat} {t : TypeId} {cs : Array Value} (hb : Blk w g t cs) (hne : t ≠ 23) (u : Value) : KeepT w (w.setCell ⟨g, i, none⟩ u) := fun k cs' hk => by
  refine hk.far ?_ u
  intro e
  subst e
  unfold Blk at hb hk
  rw [hk] at hb
  injection hb with hb
  injection hb with _ ht
  exact hne ht.symm
theorem KeepT.rowAbove {w w1 : World} (h : KeepT w w1) {g : Nat} (hg : w.heap.size ≤ g) (cs : Array Value) : KeepT w (w1.setRow g cs) := fun k cs' hk => (setRow_other w1 g k cs (by have := hk.lt; omega)).trans (h k cs' hk)
theorem KeepT.row {w w1 : World} (h : KeepT w w1) (cs : Array Value) : KeepT w (w1.setRow w.heap.size cs) := fun k cs' hk => (setRow_other w1 w.heap.size k cs (by have := hk.lt; omega)).trans (h k cs' hk)
/-- Texts that were taken. -/
def TX (B : Nat) (w : World) (g : Nat) (ts : List (List UInt8)) : Prop :=
  ∃ A c rs, rs.map BRow.l = ts ∧ B ≤ g ∧ Blk w g 119 #[.slice A rs.length c] ∧ RO B w A c rs ∧ (∀ r ∈ rs, OB B w r.A r.c r.l) ∧ ∀ t ∈ ts, t.length ≤ 1000
theorem TX.below {B : Nat} {w w' : World} {g : Nat} {ts : List (List UInt8)} (h : TX B w g ts) (hb : Below w.heap.size w w') : TX B w' g ts := by
  obtain ⟨A, c, rs, h1, h2, h3, h4, h5, h6⟩ := h
  exact ⟨A, c, rs, h1, h2, h3.below' hb, h4.below hb, fun r hr => (h5 r hr).below hb, h6⟩
theorem TX.lt {B : Nat} {w : World} {g : Nat} {ts : List (List UInt8)} (h : TX B w g ts) : g < w.heap.size := by
  obtain ⟨A, c, rs, h1, h2, h3, h4, h5, h6⟩ := h
  exact h3.lt
theorem TX.le {B : Nat} {w : World} {g : Nat} {ts : List (List UInt8)} (h : TX B w g ts) : B ≤ g := by
  obtain ⟨A, c, rs, h1, h2, h3, h4, h5, h6⟩ := h
  exact h2
theorem TX.row {B : Nat} {w : World} {g : Nat} {ts : List (List UInt8)} (h : TX B w g ts) {g' : Nat} {cs : Array Value} (hb : Blk w g' 23 cs) (cs' : Array Value) : TX B (w.setRow g' cs') g ts := by
  obtain ⟨A, c, rs, h1, h2, h3, h4, h5, h6⟩ := h
  refine ⟨A, c, rs, h1, h2, ?_, own_row_apart h4 hb (by decide) cs', fun r hr => own_row_apart (h5 r hr) hb (by decide) cs', h6⟩
  refine (setRow_other w g' g cs' fun e => ?_).trans h3
  subst e
  unfold Blk at hb h3
  rw [hb] at h3
  injection h3 with h3
  injection h3 with _ ht
  exact absurd ht (by decide)

theorem wpList_append_text (w : World) {ops : Array Oper} {rest : List Oper} {o : Oper} {a : Act} {Q : Exit → Act → World → Prop} (hgd : o.guard = none) (s x : Operand)
    (ho : o.op = .call { callee := .builtin .append, args := #[s, x], argTypes := #[119, 119] })
    (B : Nat) (A : Option Addr) (n c : Nat) (rs : List BRow) (hn : rs.length = n) (hs : a.eval s = .slice A n c) (hown : RO B w A c rs)
    (r : BRow) (X : Option Addr) (d : Nat) (hx : a.eval x = .slice X 1 d) (hsrc : Src w 1 X 1 [r.v])
    (hlen : n ≤ 1000000) (hB : B ≤ w.heap.size)
    (h : ∀ A' c' w', RO B w' A' c' (rs ++ [r]) → Below B w w' → w.grownBy w' (Value.ownBlock (.slice A n c)) → wpList Try.prog ops Q rest (a.put o.dst (.slice A' (n + 1) c')) w') : wpList Try.prog ops Q (o :: rest) a w := by
  obtain ⟨i0, hi, hz0, hz1, hz2⟩ := info_parts rows_info
  subst hn
  refine wpList_append_src w hgd s x 119 ho B 24 i0 (.slice none 0 0) 1 24 Try.underlying119 hi hz0 hz1 hz2 rfl (by omega) A rs.length c (rs.map BRow.v) hs hown X 1 d [r.v] hx hsrc (by intro u hu; rw [List.mem_singleton.1 hu]; rfl)
    (by simp only [maxLen]; omega) (by omega) hB ?_
  intro A' c' w' h1 h2 h3
  refine h A' c' w' ?_ (grown_below (Below.refl _ _) hown h2 hB (Nat.le_refl _)) h2
  unfold RO
  rw [List.map_append, List.length_append]
  exact h1

theorem taken {B : Nat} {w : World} {g : Nat} {A A0 : Option Addr} {c c0 q0 q : Nat} {rs : List BRow} {ts : List (List UInt8)} (hro : RO B w A c rs) (hob : ∀ r ∈ rs, OB B w r.A r.c r.l) (hb : Blk w g 119 #[.slice A0 q0 c0]) (hts : rs.map BRow.l = ts) (hq : rs.length = q) (hg : B ≤ g) (hbd : ∀ t ∈ ts, t.length ≤ 1000) :
    TX B (w.setCell ⟨g, 0, none⟩ (.slice A q c)) g ts := by
  subst hq
  refine ⟨A, c, rs, hts, hg, ?_, own_set_apart hro hb (by decide) _ _, fun r hr => own_set_apart (hob r hr) hb (by decide) _ _, hbd⟩
  have := hb.set_ 0 (.slice A rs.length c)
  simpa using this

set_option maxHeartbeats 1000000 in
set_option maxRecDepth 100000 in
theorem take_any {B : Nat} (ts : List (List UInt8)) (t : List UInt8) (X : Option Addr) (d g : Nat) (w : World) {m : Nat} (hm : t.length = m) (h : TX B w g ts) (hx : OB B w X d t) (hl : m ≤ 1000) (hts : ts.length ≤ 100000) :
    Calls Try.prog 65 #[.pointer (some ⟨g, 0, none⟩), .slice X m d] w fun e w' => e = .returned (.agg (cellsB (digS t)).toArray) ∧ TX B w' g (ts ++ [t]) ∧ KeepT w w' ∧ Below B w w' := by
  have hglt := h.lt
  have hBg := h.le
  obtain ⟨A, c, rs, hrs, _, hblk, hro, hob, hbd⟩ := h
  have HBD : Hid (∀ x ∈ ts ++ [t], x.length ≤ 1000) := fun x hx => by
    rcases List.mem_append.1 hx with hx | hx
    · exact hbd x hx
    · rw [List.mem_singleton.1 hx, hm]; exact hl
  obtain ⟨q, hq⟩ : ∃ q, rs.length = q := ⟨_, rfl⟩
  have hqb : q ≤ 100000 := by rw [← hq, ← List.length_map (f := BRow.l), hrs]; exact hts
  rw [hq] at hblk
  have HZ := Lib.hid zero16
  have HQ := Lib.hid hq
  have hc0 : w.cell? ⟨g, 0, none⟩ = some (.slice A q c) := hblk.cell 0
  have HKEY := Lib.hid (Blk.new w 23 (cellsB zeroK).toArray)
  have b0 := alloc_bel w (.cells (cellsB zeroK).toArray 23)
  have b1 : Below w.heap.size w ((w.alloc (.cells (cellsB zeroK).toArray 23)).alloc (.cells #[.slice X m d] 24)) := alloc2_bel w _ _
  have HSRC := Lib.hid (src_one (w.alloc (.cells (cellsB zeroK).toArray 23)) (.slice X m d) 24)
  have HKEY1 := Lib.hid (HKEY.out.alloc (.cells #[.slice X m d] 24))
  have HRO := Lib.hid (hro.below b1)
  have HBLK := Lib.hid (hblk.below' b1)
  have HOB : Hid (∀ r ∈ rs ++ [⟨X, d, t⟩], OB B ((w.alloc (.cells (cellsB zeroK).toArray 23)).alloc (.cells #[.slice X m d] 24)) r.A r.c r.l) := fun r hr => by
    rcases List.mem_append.1 hr with hr | hr
    · exact (hob r hr).below b1
    · rw [List.mem_singleton.1 hr]; exact hx.below b1
  have HRS : Hid ((rs ++ [(⟨X, d, t⟩ : BRow)]).map BRow.l = ts ++ [t]) := by unfold Hid; rw [List.map_append, hrs]; rfl
  have HM := Lib.hid hm
  have HDL : Hid ((digS t).length = 16) := digS_length _
  have HD : Hid (∀ A c W, BR W A c t → Calls Try.prog 122 #[.slice A m c] W fun e w' => e = .returned (.agg (cellsB (digS t)).toArray) ∧ Below W.heap.size W w') := fun A c W hW => digest_any t A c W hm hW (by omega)
  generalize digS t = dg at HDL HD ⊢
  have hdc : (cellsB dg).length = 16 := by rw [cellsB_length, HDL.out]
  have hall := all16 dg
  have hBg' : B ≤ w.heap.size := by omega
  clear hrs hq hblk hro hob hx hm hbd
  go_enter Try.func65, Try.ntmps65
  go_wp2_with (first
    | (at_builtin; rw [HZ.out]; refine wpList_append_text _ rfl (.tmp 8) (.tmp 10) rfl B A q c rs HQ.out rfl HRO.out ⟨X, d, t⟩ (some ⟨w.heap.size + 1, 0, none⟩) 1 rfl (by rw [show BRow.v ⟨X, d, t⟩ = .slice X m d from by unfold BRow.v; rw [HM.out]]; have := HSRC.out; rw [World.size_alloc] at this; exact this) (by omega) (by have := HKEY1.out.lt; omega) ?_; intro A5 c5 w5 hro5 hbl5 hg5; rw [← HQ.out] at hg5; have K5 := Lib.hid ((KeepT.of_below b1).trans (KeepT.grown HRO.out (by decide) hg5)); have HBLK5 := Lib.hid (HBLK.out.grown HRO.out (by decide) hg5); have HKEY5 := Lib.hid (HKEY1.out.grown HRO.out (by decide) hg5); have HOB5 : Hid (∀ r ∈ rs ++ [(⟨X, d, t⟩ : BRow)], OB B w5 r.A r.c r.l) := (fun r hr => own_kept (HOB.out r hr) HRO.out (by decide) hg5); have HRO5 := Lib.hid hro5; have hc5 : w5.cell? ⟨g, 0, none⟩ = some (.slice A q c) := HBLK5.out.cell 0; have hf5 : w5.frozen? ⟨g, 0, none⟩ = false := HBLK5.out.frozen 0; have B5 : Hid (Below B w w5) := ((b1.mono hBg').trans hbl5); clear hro5 hg5 hbl5)
    | (go_at_call 122; have ho6 := own_set_apart (HOB5.out ⟨X, d, t⟩ (by simp)) HBLK5.out (by decide) 0 (.slice A5 (q + 1) c5); rw [HM.out] at ho6; refine (HD.out X d _ (OB.br (by unfold OB; rw [HM.out]; exact ho6) (by rw [HM.out]; omega))).mono ?_; rintro e w7 ⟨rfl, hb7⟩; have TX7 : Hid (TX B w7 g (ts ++ [t])) := (taken HRO5.out HOB5.out HBLK5.out HRS.out (by rw [List.length_append, HQ.out]; rfl) hBg HBD.out).below hb7; have KEY7 := (HKEY5.out.far (p := ⟨g, 0, none⟩) (by simp; omega) (.slice A5 (q + 1) c5)).below' hb7; have hr7 : (rowAt w7 w.heap.size).size = 16 := (by rw [KEY7.row]; rfl); have hf7 := KEY7.free; have B6 : Below B w (w5.setCell ⟨g, 0, none⟩ (.slice A5 (q + 1) c5)) := B5.out.setCell hBg _; have B7 := Lib.hid (B6.trans (hb7.mono (by have := B5.out.size; simp; omega))); have HKEY7 := Lib.hid KEY7; have K7 := Lib.hid ((K5.out.trans (KeepT.set (i := 0) HBLK5.out (by decide) (.slice A5 (q + 1) c5))).trans (KeepT.of_below hb7)); clear KEY7 ho6))
  exact bodyPost_ret (results_cell_row rfl _ _ w.heap.size _ _ (0, 0) _ rfl (HKEY7.out.setRow (cellsB dg).toArray) under_key rfl (cellsB_size _ HDL.out)) rfl ⟨rfl, TX7.out.row HKEY7.out _, K7.out.row _, below_setRow B7.out hBg' _⟩
end Go.Proofs.Ytinpiodfpnbllaa

/- The texts of a list: the program's. -/
namespace Go.Proofs.Ytinpiodfpnbllaa
open Go.RowKit
set_option linter.unusedVariables false
set_option linter.unusedSimpArgs false
attribute [local go_sem] run_storeCells_key run_storeCells_new

set_option maxHeartbeats 1000000 in
set_option maxRecDepth 100000 in
theorem takeLeaf_any {B : Nat} (ts : List (List UInt8)) (k : List UInt8) (g : Nat) (w : World) (hk : k.length = 16) (h : TX B w g ts) (hts : ts.length ≤ 100000) :
    Calls Try.prog 64 #[.agg (cellsB k).toArray, .pointer (some ⟨g, 0, none⟩)] w fun e w' => e = .returned (.agg (cellsB (digS (leafT k))).toArray) ∧ TX B w' g (ts ++ [leafT k]) ∧ KeepT w w' ∧ Below B w w' := by
  have HZ := Lib.hid zero16
  have HK := Lib.hid hk
  have hBg : B ≤ w.heap.size := by have := h.lt; have := h.le; omega
  have b0 := alloc2_bel w (.cells (cellsB k).toArray 23) (.cells (cellsB zeroK).toArray 23)
  have B0 := Lib.hid (blk_b0 w (cellsB k).toArray 23 (.cells (cellsB zeroK).toArray 23))
  have B1 := Lib.hid (blk_b1 w (.cells (cellsB k).toArray 23) (cellsB zeroK).toArray 23)
  have HTX := Lib.hid (h.below b0)
  have HLT : Hid (∀ W, Calls Try.prog 66 #[.agg (cellsB k).toArray] W fun e w' => (∃ A c, e = .returned (.slice A 17 c) ∧ OB W.heap.size w' A c (leafT k)) ∧ Below W.heap.size W w') := fun W => leafText_any k W hk
  have HLL : Hid ((leafT k).length = 17) := by unfold Hid leafT; simp [hk]
  generalize leafT k = t at HLT HLL ⊢
  have HTK : Hid (∀ X d W, TX B W g ts → OB B W X d t → Calls Try.prog 65 #[.pointer (some ⟨g, 0, none⟩), .slice X 17 d] W fun e w' => e = .returned (.agg (cellsB (digS t)).toArray) ∧ TX B w' g (ts ++ [t]) ∧ KeepT W w' ∧ Below B W w') := fun X d W h1 h2 => take_any ts t X d g W HLL.out h1 h2 (by omega) hts
  have HDL : Hid ((digS t).length = 16) := digS_length _
  generalize digS t = dg at HDL HTK ⊢
  have hdc : (cellsB dg).length = 16 := by rw [cellsB_length, HDL.out]
  have hall := all16 dg
  clear hk h
  go_enter Try.func64, Try.ntmps64
  go_wp2_with (first
    | (refine wpList_load_row rfl 23 (.tmp 2) rfl w.heap.size rfl 23 (cellsB k).toArray (0, 0) _ (by rw [HZ.out]; exact B0.out) under_key rfl (cellsB_size _ HK.out) ?_)
    | (go_at_call 66; rw [HZ.out]; refine (HLT.out _).mono ?_; rintro e w1 ⟨⟨A1, c1, rfl, ho1⟩, hb1⟩; have b1 := bel_on b0 hb1; have TX1 := Lib.hid (HTX.out.below hb1); have O1 := Lib.hid (ho1.le_ (Nat.le_trans hBg b0.size)); have Q1 := Lib.hid (B1.out.below' hb1); clear ho1 hb1)
    | (go_at_call 65; refine (HTK.out _ _ _ TX1.out O1.out).mono ?_; rintro e w2 ⟨rfl, htx2, hk2, hb2⟩; have TX2 := Lib.hid htx2; have K2 := Lib.hid ((KeepT.of_below b1).trans hk2); have Q2 := hk2 _ _ Q1.out; have b2 := Lib.hid ((b1.mono hBg).trans hb2); have hr2 : (rowAt w2 (w.heap.size + 1)).size = 16 := (by rw [Q2.row]; rfl); have hf2 := Q2.free; have HQ2 := Lib.hid Q2; clear Q2 htx2 hk2 hb2))
  exact bodyPost_ret (results_cell_row rfl _ _ (w.heap.size + 1) _ _ (0, 0) _ rfl (HQ2.out.setRow (cellsB dg).toArray) under_key rfl (cellsB_size _ HDL.out)) rfl ⟨rfl, TX2.out.row HQ2.out _, K2.out.rowAbove (by omega) _, below_setRow b2.out (by omega) _⟩

set_option maxHeartbeats 1000000 in
set_option maxRecDepth 100000 in
theorem takeNode_any {B : Nat} (ts : List (List UInt8)) (a b : List UInt8) (g : Nat) (w : World) (ha : a.length = 16) (hb : b.length = 16) (h : TX B w g ts) (hts : ts.length ≤ 100000) :
    Calls Try.prog 67 #[.agg (cellsB a).toArray, .agg (cellsB b).toArray, .pointer (some ⟨g, 0, none⟩)] w fun e w' => e = .returned (.agg (cellsB (digS (nodeT a b))).toArray) ∧ TX B w' g (ts ++ [nodeT a b]) ∧ KeepT w w' ∧ Below B w w' := by
  have HZ := Lib.hid zero16
  have HA := Lib.hid ha
  have HB := Lib.hid hb
  have hBg : B ≤ w.heap.size := by have := h.lt; have := h.le; omega
  have b0 := alloc3_bel w (.cells (cellsB a).toArray 23) (.cells (cellsB b).toArray 23) (.cells (cellsB zeroK).toArray 23)
  have B0 := Lib.hid (blk_a0 w (cellsB a).toArray 23 (.cells (cellsB b).toArray 23) (.cells (cellsB zeroK).toArray 23))
  have B1 := Lib.hid (blk_a1 w (.cells (cellsB a).toArray 23) (cellsB b).toArray 23 (.cells (cellsB zeroK).toArray 23))
  have B2 := Lib.hid (blk_a2 w (.cells (cellsB a).toArray 23) (.cells (cellsB b).toArray 23) (cellsB zeroK).toArray 23)
  have HTX := Lib.hid (h.below b0)
  have HLT : Hid (∀ W, Calls Try.prog 68 #[.agg (cellsB a).toArray, .agg (cellsB b).toArray] W fun e w' => (∃ A c, e = .returned (.slice A 33 c) ∧ OB W.heap.size w' A c (nodeT a b)) ∧ Below W.heap.size W w') := fun W => nodeText_any a b W ha hb
  have HLL : Hid ((nodeT a b).length = 33) := by unfold Hid nodeT; simp [ha, hb]
  generalize nodeT a b = t at HLT HLL ⊢
  have HTK : Hid (∀ X d W, TX B W g ts → OB B W X d t → Calls Try.prog 65 #[.pointer (some ⟨g, 0, none⟩), .slice X 33 d] W fun e w' => e = .returned (.agg (cellsB (digS t)).toArray) ∧ TX B w' g (ts ++ [t]) ∧ KeepT W w' ∧ Below B W w') := fun X d W h1 h2 => take_any ts t X d g W HLL.out h1 h2 (by omega) hts
  have HDL : Hid ((digS t).length = 16) := digS_length _
  generalize digS t = dg at HDL HTK ⊢
  have hdc : (cellsB dg).length = 16 := by rw [cellsB_length, HDL.out]
  have hall := all16 dg
  clear ha hb h
  go_enter Try.func67, Try.ntmps67
  go_wp2_with (first
    | (refine wpList_load_row rfl 23 (.tmp 3) rfl w.heap.size rfl 23 (cellsB a).toArray (0, 0) _ (by rw [HZ.out]; exact B0.out) under_key rfl (cellsB_size _ HA.out) ?_)
    | (refine wpList_load_row rfl 23 (.tmp 4) rfl (w.heap.size + 1) rfl 23 (cellsB b).toArray (0, 0) _ (by rw [HZ.out]; exact B1.out) under_key rfl (cellsB_size _ HB.out) ?_)
    | (go_at_call 68; rw [HZ.out]; refine (HLT.out _).mono ?_; rintro e w1 ⟨⟨A1, c1, rfl, ho1⟩, hb1⟩; have b1 := bel_on b0 hb1; have TX1 := Lib.hid (HTX.out.below hb1); have O1 := Lib.hid (ho1.le_ (Nat.le_trans hBg b0.size)); have Q1 := Lib.hid (B2.out.below' hb1); clear ho1 hb1)
    | (go_at_call 65; refine (HTK.out _ _ _ TX1.out O1.out).mono ?_; rintro e w2 ⟨rfl, htx2, hk2, hb2⟩; have TX2 := Lib.hid htx2; have K2 := Lib.hid ((KeepT.of_below b1).trans hk2); have Q2 := hk2 _ _ Q1.out; have b2 := Lib.hid ((b1.mono hBg).trans hb2); have hr2 : (rowAt w2 (w.heap.size + 1 + 1)).size = 16 := (by rw [Q2.row]; rfl); have hf2 := Q2.free; have HQ2 := Lib.hid Q2; clear Q2 htx2 hk2 hb2))
  exact bodyPost_ret (results_cell_row rfl _ _ (w.heap.size + 1 + 1) _ _ (0, 0) _ rfl (HQ2.out.setRow (cellsB dg).toArray) under_key rfl (cellsB_size _ HDL.out)) rfl ⟨rfl, TX2.out.row HQ2.out _, K2.out.rowAbove (by omega) _, below_setRow b2.out (by omega) _⟩

theorem textsS_le : ∀ (n : Nat) (l : List (List UInt8)), l.length = n → 1 ≤ n → (textsS l).length ≤ 2 * n := by
  intro n
  induction n using Nat.strongRecOn with
  | _ n ih =>
    intro l hl h1
    rcases Nat.lt_or_ge n 2 with h2 | h2
    · obtain rfl : n = 1 := by omega
      obtain ⟨x, rfl⟩ := List.length_eq_one_iff.1 hl
      rw [textsS_one]; simp
    have s1 := splitS_lt h2
    have s2 := splitS_pos n
    suffices hs : (textsS l).length + 1 ≤ 2 * n by omega
    have : ∀ (n : Nat) (l : List (List UInt8)), l.length = n → 1 ≤ n → (textsS l).length + 1 ≤ 2 * n := by
      intro n
      induction n using Nat.strongRecOn with
      | _ n ih =>
        intro l hl h1
        rcases Nat.lt_or_ge n 2 with h2 | h2
        · obtain rfl : n = 1 := by omega
          obtain ⟨x, rfl⟩ := List.length_eq_one_iff.1 hl
          rw [textsS_one]; simp
        have s1 := splitS_lt h2
        have s2 := splitS_pos n
        rw [textsS_node (by omega), hl]
        have a := ih (splitS n) s1 (l.take (splitS n)) (by rw [List.length_take]; omega) s2
        have b := ih (n - splitS n) (by omega) (l.drop (splitS n)) (by rw [List.length_drop]; omega) (by omega)
        simp only [List.length_append, List.length_cons, List.length_nil]
        omega
    exact this n l hl h1

set_option maxHeartbeats 1000000 in
set_option maxRecDepth 100000 in
theorem textFold_one (w0 : World) (k : List UInt8) (A : Option Addr) (c g : Nat) (ts : List (List UInt8)) (w : World) (h : KR w0 A c [k]) (hw : Below w0.heap.size w0 w) (ht : TX w0.heap.size w g ts) (hts : ts.length ≤ 100000) :
    Calls Try.prog 63 #[.slice A 1 c, .func (.func 64) #[] #[.pointer (some ⟨g, 0, none⟩)], .func (.func 67) #[] #[.pointer (some ⟨g, 0, none⟩)]] w fun e w' => e = .returned (.agg (cellsB (rootS [k])).toArray) ∧ TX w0.heap.size w' g (ts ++ textsS [k]) ∧ KeepT w w' ∧ Below w0.heap.size w w' := by
  have hk : k.length = 16 := h.2 k (by simp)
  obtain ⟨b, off, rfl, hb, hr⟩ := (h.below hw).first
  have HK := Lib.hid hk
  have HZ := Lib.hid zero16
  have b0 := alloc_bel w (.cells (cellsB zeroK).toArray 23)
  have B0 := Lib.hid (Blk.new w 23 (cellsB zeroK).toArray)
  have HR := Lib.hid (range_below hr b0)
  have HTX := Lib.hid (ht.below b0)
  have hws : w0.heap.size ≤ w.heap.size := hw.size
  have HD : Hid (∀ W, TX w0.heap.size W g ts → Calls Try.prog 64 #[.agg (cellsB k).toArray, .pointer (some ⟨g, 0, none⟩)] W fun e w' => e = .returned (.agg (cellsB (rootS [k])).toArray) ∧ TX w0.heap.size w' g (ts ++ textsS [k]) ∧ KeepT W w' ∧ Below w0.heap.size W w') := fun W hW => by rw [rootS_one, textsS_one]; exact takeLeaf_any ts k g W hk hW hts
  have HDL : Hid ((rootS [k]).length = 16) := rootS_length _
  generalize rootS [k] = d at HD HDL
  generalize textsS [k] = tk at HD
  have hdc : (cellsB d).length = 16 := by rw [cellsB_length, HDL.out]
  have hall := all16 d
  clear hk hr h ht
  go_enter Try.func63, Try.ntmps63
  go_wp2_with (first
    | (rw [HZ.out]; refine wpList_load_mid rfl 23 (.tmp 13) rfl b off rfl (cellsB k) _ HR.out under_key rfl (key_info HK.out) ?_)
    | (go_at_call 64; refine (HD.out _ HTX.out).mono ?_; rintro e w2 ⟨rfl, htx2, hk2, hb2⟩; have TX2 := Lib.hid htx2; have K2 := Lib.hid ((KeepT.of_below b0).trans hk2); have Q2 := hk2 _ _ B0.out; have b2 := Lib.hid ((b0.mono hws).trans hb2); have hr2 : (rowAt w2 w.heap.size).size = 16 := (by rw [Q2.row]; rfl); have hf2 := Q2.free; have HQ2 := Lib.hid Q2; clear Q2 htx2 hk2 hb2))
  exact bodyPost_ret (results_cell_row rfl _ _ w.heap.size _ _ (0, 0) _ rfl (HQ2.out.setRow (cellsB d).toArray) under_key rfl (cellsB_size _ HDL.out)) rfl ⟨rfl, TX2.out.row HQ2.out _, K2.out.row _, below_setRow b2.out hws _⟩

set_option maxHeartbeats 2000000 in
set_option maxRecDepth 100000 in
theorem textFold_any (w0 : World) (g n : Nat) : ∀ (ks : List (List UInt8)) (A : Option Addr) (c : Nat) (ts : List (List UInt8)) (w : World), ks.length = n → 1 ≤ n → n ≤ 1000 → KR w0 A c ks → Below w0.heap.size w0 w → TX w0.heap.size w g ts → ts.length + 2 * n ≤ 50000 →
    Calls Try.prog 63 #[.slice A n c, .func (.func 64) #[] #[.pointer (some ⟨g, 0, none⟩)], .func (.func 67) #[] #[.pointer (some ⟨g, 0, none⟩)]] w fun e w' => e = .returned (.agg (cellsB (rootS ks)).toArray) ∧ TX w0.heap.size w' g (ts ++ textsS ks) ∧ KeepT w w' ∧ Below w0.heap.size w w' := by
  induction n using Nat.strongRecOn with
  | _ n ih =>
    intro ks A c ts w hn h1n hbig h hw ht hts
    rcases Nat.lt_or_ge n 2 with h2 | h2
    · obtain rfl : n = 1 := by omega
      obtain ⟨k, rfl⟩ := List.length_eq_one_iff.1 hn
      exact textFold_one w0 k A c g ts w h hw ht (by omega)
    have hs1 := splitS_pos n
    have hs2 := splitS_lt h2
    have hcl : n ≤ c := by have := Rd.le h.1; omega
    have hni : (2 : Int) ≤ (n : Int) := by omega
    have hnb : (n : Int) ≤ 1000 := by omega
    have hne0 : ¬ (n : Int) = 0 := by omega
    have hne1 : ¬ (n : Int) = 1 := by omega
    have hws : w0.heap.size ≤ w.heap.size := hw.size
    have HSP : Hid (∀ W, Calls Try.prog 72 #[.int .i64 (n : Int)] W fun e w' => e = .returned (.int .i64 ((splitS n : Nat) : Int)) ∧ W = w') := fun W => split_any n W h2 hbig
    have HNODE : Hid (rootS ks = digS (nodeT (rootS (ks.take (splitS n))) (rootS (ks.drop (splitS n))))) := by have := rootS_node (l := ks) (by omega); rw [hn] at this; exact this
    have HTEXT : Hid (textsS ks = textsS (ks.take (splitS n)) ++ (textsS (ks.drop (splitS n)) ++ [nodeT (rootS (ks.take (splitS n))) (rootS (ks.drop (splitS n)))])) := by have := textsS_node (l := ks) (by omega); rw [hn] at this; exact this
    have hT1 := textsS_le (splitS n) (ks.take (splitS n)) (by rw [List.length_take]; omega) hs1
    have hT2 := textsS_le (n - splitS n) (ks.drop (splitS n)) (by rw [List.length_drop]; omega) (by omega)
    have HLO : Hid (∀ W, Below w0.heap.size w0 W → TX w0.heap.size W g ts → Calls Try.prog 63 #[.slice A (splitS n) c, .func (.func 64) #[] #[.pointer (some ⟨g, 0, none⟩)], .func (.func 67) #[] #[.pointer (some ⟨g, 0, none⟩)]] W fun e w' => e = .returned (.agg (cellsB (rootS (ks.take (splitS n)))).toArray) ∧ TX w0.heap.size w' g (ts ++ textsS (ks.take (splitS n))) ∧ KeepT W w' ∧ Below w0.heap.size W w') := fun W hW hT => ih (splitS n) hs2 _ A c ts W (by rw [List.length_take]; omega) (by omega) (by omega) (h.take _ (by omega)) hW hT (by omega)
    have HHI : Hid (∀ W, Below w0.heap.size w0 W → TX w0.heap.size W g (ts ++ textsS (ks.take (splitS n))) → Calls Try.prog 63 #[.slice (dropK A (splitS n) c) (n - splitS n) (c - splitS n), .func (.func 64) #[] #[.pointer (some ⟨g, 0, none⟩)], .func (.func 67) #[] #[.pointer (some ⟨g, 0, none⟩)]] W fun e w' => e = .returned (.agg (cellsB (rootS (ks.drop (splitS n)))).toArray) ∧ TX w0.heap.size w' g ((ts ++ textsS (ks.take (splitS n))) ++ textsS (ks.drop (splitS n))) ∧ KeepT W w' ∧ Below w0.heap.size W w') := fun W hW hT => ih (n - splitS n) (by omega) _ _ _ _ W (by rw [List.length_drop]; omega) (by omega) (by omega) (h.drop _ (by omega)) hW hT (by rw [List.length_append]; omega)
    have hL1 := rootS_length (ks.take (splitS n))
    have hL2 := rootS_length (ks.drop (splitS n))
    have hsl1 := fun W => slice_keys_to W A n c (splitS n) (by omega)
    have hsl2 := fun W => slice_keys_from W A n c (splitS n) (by omega)
    generalize splitS n = k at HSP HNODE HTEXT HLO HHI hL1 hL2 hsl1 hsl2 hs1 hs2 hT1 hT2
    generalize rootS (ks.take k) = r1 at HNODE HTEXT HLO hL1
    generalize rootS (ks.drop k) = r2 at HNODE HTEXT HHI hL2
    generalize textsS (ks.take k) = x1 at HTEXT HLO HHI hT1
    generalize textsS (ks.drop k) = x2 at HTEXT HHI hT2
    have HD : Hid (∀ W, TX w0.heap.size W g ((ts ++ x1) ++ x2) → Calls Try.prog 67 #[.agg (cellsB r1).toArray, .agg (cellsB r2).toArray, .pointer (some ⟨g, 0, none⟩)] W fun e w' => e = .returned (.agg (cellsB (digS (nodeT r1 r2))).toArray) ∧ TX w0.heap.size w' g (((ts ++ x1) ++ x2) ++ [nodeT r1 r2]) ∧ KeepT W w' ∧ Below w0.heap.size W w') := fun W hW => takeNode_any _ r1 r2 g W hL1 hL2 hW (by simp only [List.length_append]; omega)
    have HDL : Hid ((digS (nodeT r1 r2)).length = 16) := digS_length _
    generalize digS (nodeT r1 r2) = d at HD HDL HNODE
    generalize nodeT r1 r2 = nt at HD HTEXT
    have HZ := Lib.hid zero16
    have b0 := alloc_bel w (.cells (cellsB zeroK).toArray 23)
    have B0 := Lib.hid (Blk.new w 23 (cellsB zeroK).toArray)
    have HTX := Lib.hid (ht.below b0)
    have HW := Lib.hid hw
    clear ih h hn hbig hL1 hL2 ht hts hT1 hT2 hw
    go_enter Try.func63, Try.ntmps63
    go_wp2_with (go_at_call 72; rw [HZ.out]; refine (HSP.out _).mono ?_; rintro e w1 ⟨rfl, rfl⟩)
    obtain ⟨W0, hW0⟩ : ∃ W : World, W = w.alloc (.cells (cellsB zeroK).toArray 23) := ⟨_, rfl⟩
    rw [← hW0] at b0 B0 HTX ⊢
    clear hW0
    refine wp_region_noPanic ?_
    refine wp_region_held_drew (S := fun _ => True) (by kernel_rfl) trivial (fun hS => ?_)
    refine hd_take 0 (_) rfl rfl (by kernel_rfl) (by kernel_rfl) (by kernel_rfl) (fun _ _ _ h => h) (fun w _ => by go_simp <;> rfl) hS ?_
    refine hd_take 1 (_) rfl rfl (by kernel_rfl) (by kernel_rfl) (by kernel_rfl) (fun _ _ _ h => h) (fun w _ => by go_simp <;> rfl) hS ?_
    refine hd_take 2 (_) rfl rfl (by kernel_rfl) (by kernel_rfl) (by kernel_rfl) (fun _ _ _ h => h) (fun w _ => by go_simp <;> rfl) hS ?_
    refine hd_take 4 (_) rfl rfl (by kernel_rfl) (by kernel_rfl) (by kernel_rfl) (fun _ _ _ h => h) (fun w _ => by go_simp <;> rfl) hS ?_
    refine hd_take 5 (_) rfl rfl (by kernel_rfl) (by kernel_rfl) (by kernel_rfl) (fun _ _ _ h => h) (fun w _ => by go_simp <;> rfl) hS ?_
    refine hd_take 7 (_) rfl rfl (by kernel_rfl) (by kernel_rfl) (by kernel_rfl) (fun _ _ _ h => h) (fun w _ => by go_simp <;> rfl) hS ?_
    refine hd_take 8 (_) rfl rfl (by kernel_rfl) (by kernel_rfl) (by kernel_rfl) (fun _ _ _ h => h) (fun w _ => by go_simp <;> rfl) hS ?_
    refine hd_take 10 (_) rfl rfl (by kernel_rfl) (by kernel_rfl) (by kernel_rfl) (fun _ _ _ h => h) (fun w _ => by go_simp <;> rfl) hS ?_
    refine hd_take 11 (_) rfl rfl (by kernel_rfl) (by kernel_rfl) (by kernel_rfl) (fun _ _ _ h => h) (fun w _ => by go_simp <;> rfl) hS ?_
    simp only [List.getElem_toArray, List.getElem_cons_succ, List.getElem_cons_zero, Act.put, List.setIfInBounds_toArray, List.set_cons_zero, List.set_cons_succ]
    refine hd_take 3 (_) rfl rfl (by kernel_rfl) (by kernel_rfl) (by kernel_rfl) (fun _ _ _ h => h) (fun w _ => by go_simp <;> rfl) hS ?_
    refine hd_take 9 (_) rfl rfl (by kernel_rfl) (by kernel_rfl) (by kernel_rfl) (fun _ _ _ h => h) (fun w _ => by go_simp <;> rfl) hS ?_
    simp only [List.getElem_toArray, List.getElem_cons_succ, List.getElem_cons_zero, Act.put, List.setIfInBounds_toArray, List.set_cons_zero, List.set_cons_succ]
    have bw : Below w0.heap.size w W0.drew := (b0.mono hws).trans (Below.refl _ _).drew
    have k0 : KeepT w W0.drew := (KeepT.of_below b0).trans (KeepT.of_below (Below.refl _ _).drew)
    refine hd_calls 6 63 #[.slice A k c, .func (.func 64) #[] #[.pointer (some ⟨g, 0, none⟩)], .func (.func 67) #[] #[.pointer (some ⟨g, 0, none⟩)]] rfl rfl (by kernel_rfl) (by go_simp) ((HLO.out _ (HW.out.trans bw) (HTX.out.below (Below.refl _ _).drew)).mono ?_)
    rintro e w3 ⟨rfl, ht3, hk3, hb3⟩
    have b3 := bw.trans hb3
    refine ⟨_, rfl, trivial, ?_⟩
    refine hd_calls 12 63 #[.slice (dropK A k c) (n - k) (c - k), .func (.func 64) #[] #[.pointer (some ⟨g, 0, none⟩)], .func (.func 67) #[] #[.pointer (some ⟨g, 0, none⟩)]] rfl rfl (by kernel_rfl) (by go_simp) ((HHI.out _ (HW.out.trans b3) ht3).mono ?_)
    rintro e w4 ⟨rfl, ht4, hk4, hb4⟩
    have b4 := b3.trans hb4
    refine ⟨_, rfl, trivial, ?_⟩
    simp only [List.getElem_toArray, List.getElem_cons_succ, List.getElem_cons_zero, Act.put, List.setIfInBounds_toArray, List.set_cons_zero, List.set_cons_succ]
    refine hd_calls 13 67 #[.agg (cellsB r1).toArray, .agg (cellsB r2).toArray, .pointer (some ⟨g, 0, none⟩)] rfl rfl (by kernel_rfl) (by go_simp) ((HD.out _ ht4).mono ?_)
    rintro e w6 ⟨rfl, ht6, hk6, hb6⟩
    have b6 := b4.trans hb6
    refine ⟨_, rfl, trivial, ?_⟩
    simp only [List.getElem_toArray, List.getElem_cons_succ, List.getElem_cons_zero, Act.put, List.setIfInBounds_toArray, List.set_cons_zero, List.set_cons_succ]
    have Q6 := hk6 _ _ (hk4 _ _ (hk3 _ _ B0.out.drew))
    have K6 := ((k0.trans hk3).trans hk4).trans hk6
    refine hd_store 14 w.heap.size (cellsB d).toArray _ _ _ rfl rfl rfl (by kernel_rfl) rfl rfl Q6 (cellsB_size _ HDL.out) (by rw [List.size_toArray, List.size_toArray, cellsB_length, cellsB_length, HDL.out]; rfl) (all_oneCell_toArray (cells_one d)) trivial ?_
    refine wpAnyH_done (by kernel_rfl) (NoPanic.normal ?_) _
    simp only [List.getElem_toArray, List.getElem_cons_succ, List.getElem_cons_zero, Act.put, List.setIfInBounds_toArray, List.set_cons_zero, List.set_cons_succ]
    have HT6 := Lib.hid (ht6.row Q6 (cellsB d).toArray)
    have HK6 := Lib.hid (K6.row (cellsB d).toArray)
    have HB6 := Lib.hid (below_setRow b6 hws (cellsB d).toArray)
    have HQ6 := Lib.hid (Q6.setRow (cellsB d).toArray)
    clear ht6 ht4 ht3 hk3 hk4 hk6 K6 k0
    go_wp2_with fail
    exact bodyPost_ret (results_cell_row rfl _ _ w.heap.size _ _ (0, 0) _ rfl HQ6.out under_key rfl (cellsB_size _ HDL.out)) rfl ⟨by rw [HNODE.out], by rw [HTEXT.out]; have := HT6.out; simpa only [List.append_assoc] using this, HK6.out, HB6.out⟩
end Go.Proofs.Ytinpiodfpnbllaa

/- Texts: the program's; texts that were returned. -/
namespace Go.Proofs.Ytinpiodfpnbllaa
open Go.RowKit
set_option linter.unusedVariables false
set_option linter.unusedSimpArgs false

/-- Texts that are returned, with an error. -/
def TxEnd (ts : List (List UInt8)) (e0 : Int) (e : Ending) (w' : World) : Prop := ∃ A c rs, e = .returned (.tuple #[.slice A rs.length c, .int .i64 e0]) ∧ rs.map BRow.l = ts ∧ RR w' A c rs
def textsR (ks : List (List UInt8)) : List (List UInt8) × Int := if 128 < ks.length then ([], 4) else (textsS ks, 0)
theorem RR.nil (w : World) : RR w none 0 [] := ⟨Rd.nil w 1, by simp⟩
theorem TX.rr {B : Nat} {w : World} {g : Nat} {ts : List (List UInt8)} (h : TX B w g ts) (hl : ts.length ≤ 100000) : ∃ A c rs, w.cell? ⟨g, 0, none⟩ = some (.slice A rs.length c) ∧ rs.map BRow.l = ts ∧ RR w A c rs := by
  obtain ⟨A, c, rs, h1, h2, h3, h4, h5, h6⟩ := h
  have hrl : rs.length ≤ 100000 := by rw [← List.length_map (f := BRow.l), h1]; exact hl
  refine ⟨A, c, rs, h3.cell 0, h1, h4.rr (by omega) fun r hr => (h5 r hr).br ?_⟩
  have := h6 r.l (by rw [← h1]; exact List.mem_map.2 ⟨r, hr, rfl⟩)
  omega
theorem TX.new (w : World) : TX w.heap.size (w.alloc (.cells #[.slice none 0 0] 119)) w.heap.size [] :=
  ⟨none, 0, [], rfl, Nat.le_refl _, Blk.new w _ _, RO.nil _ _, by simp, by simp⟩

set_option maxHeartbeats 1000000 in
set_option maxRecDepth 100000 in
theorem Texts_any (ks : List (List UInt8)) (A : Option Addr) (c : Nat) (w : World) {n : Nat} (hn : ks.length = n) (h : KR w A c ks) :
    Calls Try.prog 17 #[.slice A n c] w fun e w' => TxEnd (textsR ks).1 (textsR ks).2 e w' ∧ Below w.heap.size w w' := by
  have hnl : (n : Int) ≤ 140737488351232 := by have := h.len; omega
  rcases (by omega : 128 < n ∨ n = 0 ∨ (1 ≤ n ∧ n ≤ 128)) with hw | rfl | ⟨h1, hw⟩
  · have HS : Hid (textsR ks = ([], 4)) := by unfold Hid textsR; rw [if_pos (by omega)]
    have hbi : (128 : Int) < n := by omega
    clear hn h hw
    go_enter Try.func17, Try.ntmps17
    go_wp2
    go_ret2
    rw [HS.out]
    exact ⟨⟨none, 0, [], rfl, rfl, RR.nil _⟩, Below.refl _ _⟩
  · have HS : Hid (textsR ks = ([[]], 0)) := by unfold Hid textsR; rw [if_neg (by omega), List.eq_nil_of_length_eq_zero hn, textsS_nil]
    clear hn h hnl
    go_enter Try.func17, Try.ntmps17
    go_wp2
    go_ret2
    rw [HS.out]
    refine ⟨⟨some ⟨w.heap.size, 0, none⟩, 1, [⟨none, 0, []⟩], rfl, rfl, ⟨⟨⟨rfl, Nat.le_refl _, by omega, by simp⟩, fun _ => ⟨w.heap.size, 0, rfl, by simp, fun j v hv => ?_⟩⟩, fun r hr => by rw [List.mem_singleton.1 hr]; exact BR.nil _⟩⟩, alloc_bel _ _⟩
    rw [Nat.zero_add, (Blk.new w _ _).cell j]
    simpa [BRow.v] using hv
  · have HS : Hid (textsR ks = (textsS ks, 0)) := by unfold Hid textsR; rw [if_neg (by omega)]
    have hwi : (n : Int) ≤ 128 := by omega
    have h1i : (1 : Int) ≤ n := by omega
    have hne : ¬ (n : Int) = 0 := by omega
    have hlt : ¬ (128 : Int) < n := by omega
    have hle := textsS_le n ks hn h1
    have b0 := alloc_bel w (.cells #[.slice none 0 0] 119)
    have HF := Lib.hid (textFold_any w w.heap.size n ks A c [] (w.alloc (.cells #[.slice none 0 0] 119)) hn h1 (by omega) h b0 (TX.new w) (by simp; omega))
    generalize textsS ks = ts at HS HF hle
    generalize rootS ks = rt at HF
    rw [List.nil_append] at HF
    have HLE : Hid (ts.length ≤ 100000) := by unfold Hid; omega
    clear hn h hw hle
    go_enter Try.func17, Try.ntmps17
    go_wp2_with (go_at_call 63; refine (HF.out).mono ?_; rintro e w1 ⟨rfl, ht1, hk1, hb1⟩; obtain ⟨A1, c1, rs, hc1, hrs, hrr⟩ := ht1.rr HLE.out; have HRS := Lib.hid hrs; have HRR := Lib.hid hrr; have B1 := Lib.hid (b0.trans hb1); generalize hq : rs.length = q at hc1; have HQ := Lib.hid hq; clear hrs hrr ht1 hk1 hb1 hq)
    go_ret2
    rw [HS.out]
    exact ⟨⟨A1, c1, rs, by rw [HQ.out]; rfl, HRS.out, HRR.out⟩, B1.out⟩
end Go.Proofs.Ytinpiodfpnbllaa

/- The texts of a list: the reference's. -/
namespace Go.Proofs.Ytinpiodfpnbllaa
open Go.RowKit
set_option linter.unusedVariables false
set_option linter.unusedSimpArgs false

section
variable {md : Region.Mode} {ops : Array Oper} {Q : Exit → Act → World → Prop} {S : World → Prop} {fuel : Nat} {listed : Array Bool} {a : Act} {w : World}
/-- append to rows that the call owns, the only operation that may come up. -/
theorem hd_appendR (i : Nat) {oi : Oper} (s x : Operand) (hi : ops[i]? = some oi) (ho : oi.op = .call { callee := .builtin .append, args := #[s, x], argTypes := #[45, 45] }) (hg : oi.guard = none) (hr : Region.ready md ops listed = [i])
    (B : Nat) (A : Option Addr) (n c : Nat) (rs : List BRow) (hn : rs.length = n) (hs : a.eval s = .slice A n c) (hown : RO B w A c rs)
    (X : Option Addr) (m d : Nat) (news : List BRow) (hm : news.length = m) (hx : a.eval x = .slice X m d) (hsrc : Src w 1 X m (news.map BRow.v)) (hlen : n + m ≤ 1000000) (hB : B ≤ w.heap.size)
    (h : ∀ A' c' w', RO B w' A' c' (rs ++ news) → Below B w w' → w.grownBy w' (Value.ownBlock (.slice A n c)) → S w' ∧ wpAnyH Try.prog md ops Q S fuel (listed.setIfInBounds i true) (a.put oi.dst (.slice A' (n + m) c')) w') : wpAnyH Try.prog md ops Q S (fuel + 1) listed a w := by
  obtain ⟨i0, hi0, hz0, hz1, hz2⟩ := info_parts rows_info
  subst hn hm
  obtain ⟨A', c', w', hrun, h2, h3, h4⟩ := run_append_src (P := Try.prog) w B 45 oi.type 24 i0 (.slice none 0 0) 1 24 Try.underlying45 hi0 hz0 hz1 hz2 rfl (by omega) A rs.length c (rs.map BRow.v) hown X news.length d (news.map BRow.v) hsrc (by intro u hu; obtain ⟨r, _, rfl⟩ := List.mem_map.1 hu; rfl) (by simp only [maxLen]; omega) (by omega) hB
  refine hd_one i hi hg hr ?_
  refine Lib.wp_append_run w s x 45 45 ho _ _ hs hx _ w' hrun ?_
  refine h A' c' w' ?_ (grown_below (Below.refl _ _) hown h3 hB (Nat.le_refl _)) h3
  unfold RO
  rw [List.map_append, List.length_append]
  exact h2
end
/-- Texts that the call owns. -/
def TO (B : Nat) (w : World) (A : Option Addr) (c : Nat) (rs : List BRow) (ts : List (List UInt8)) : Prop := rs.map BRow.l = ts ∧ RO B w A c rs ∧ ∀ r ∈ rs, OB B w r.A r.c r.l
theorem TO.below {B : Nat} {w w' : World} {A : Option Addr} {c : Nat} {rs : List BRow} {ts : List (List UInt8)} (h : TO B w A c rs ts) (hb : Below w.heap.size w w') : TO B w' A c rs ts := ⟨h.1, h.2.1.below hb, fun r hr => (h.2.2 r hr).below hb⟩
theorem RO.le_ {B B' : Nat} {w : World} {A : Option Addr} {c : Nat} {rs : List BRow} (h : RO B w A c rs) (hB : B' ≤ B) : RO B' w A c rs :=
  ⟨h.1, h.2.elim Or.inl (fun ⟨g, cap, cur, hv, hg, r⟩ => Or.inr ⟨g, cap, cur, hv, Nat.le_trans hB hg, r⟩)⟩
theorem TO.le_ {B B' : Nat} {w : World} {A : Option Addr} {c : Nat} {rs : List BRow} {ts : List (List UInt8)} (h : TO B w A c rs ts) (hB : B' ≤ B) : TO B' w A c rs ts := ⟨h.1, h.2.1.le_ hB, fun r hr => (h.2.2 r hr).le_ hB⟩
theorem TO.len {B : Nat} {w : World} {A : Option Addr} {c : Nat} {rs : List BRow} {ts : List (List UInt8)} (h : TO B w A c rs ts) : rs.length = ts.length := by rw [← h.1, List.length_map]
theorem TO.rr {B : Nat} {w : World} {A : Option Addr} {c : Nat} {rs : List BRow} {ts : List (List UInt8)} (h : TO B w A c rs ts) (hl : ts.length ≤ 100000) (hb : ∀ t ∈ ts, t.length ≤ 1000) : RR w A c rs :=
  h.2.1.rr (by rw [h.len]; omega) fun r hr => (h.2.2 r hr).br (by have := hb r.l (by rw [← h.1]; exact List.mem_map.2 ⟨r, hr, rfl⟩); omega)
theorem RO.lit (B : Nat) (w : World) (r : BRow) (hB : B ≤ w.heap.size) : RO B (w.alloc (.cells #[r.v] 24)) (some ⟨w.heap.size, 0, none⟩) 1 [r] := by
  have h := World.ownsRow_lit (e := 24) (size := 1) w #[r.v] 1 hB (by simp [maxLen]) (by simp)
  unfold RO
  simpa using h
theorem textsS_short : ∀ (n : Nat) (l : List (List UInt8)), l.length = n → (∀ k ∈ l, k.length = 16) → ∀ t ∈ textsS l, t.length ≤ 1000 := by
  intro n
  induction n using Nat.strongRecOn with
  | _ n ih =>
    intro l hl hk t ht
    rcases Nat.lt_or_ge n 2 with h2 | h2
    · rcases Nat.lt_or_ge n 1 with h1 | h1
      · rw [List.eq_nil_of_length_eq_zero (show l.length = 0 by omega), textsS_nil, List.mem_singleton] at ht
        subst ht; simp
      · obtain ⟨x, rfl⟩ := List.length_eq_one_iff.1 (show l.length = 1 by omega)
        rw [textsS_one, List.mem_singleton] at ht
        subst ht
        have := hk x (by simp)
        simp [leafT, this]
    have s1 := splitS_lt h2
    have s2 := splitS_pos n
    rw [textsS_node (by omega), hl] at ht
    rcases List.mem_append.1 ht with ht | ht
    · exact ih (splitS n) s1 _ (by rw [List.length_take]; omega) (fun k h => hk k (List.mem_of_mem_take h)) t ht
    · rcases List.mem_append.1 ht with ht | ht
      · exact ih (n - splitS n) (by omega) _ (by rw [List.length_drop]; omega) (fun k h => hk k (List.mem_of_mem_drop h)) t ht
      · rw [List.mem_singleton.1 ht]
        simp [nodeT, rootS_length]

set_option maxHeartbeats 1000000 in
set_option maxRecDepth 100000 in
theorem refTexts_one (k : List UInt8) (A : Option Addr) (c : Nat) (w : World) (h : KR w A c [k]) :
    Calls Try.prog 69 #[.slice A 1 c] w fun e w' => (∃ A' c' rs, e = .returned (.slice A' rs.length c') ∧ TO w.heap.size w' A' c' rs (textsS [k])) ∧ Below w.heap.size w w' := by
  have hk : k.length = 16 := h.2 k (by simp)
  obtain ⟨b, off, rfl, hb, hr⟩ := h.first
  have HK := Lib.hid hk
  have HR := Lib.hid hr
  have HLT : Hid (∀ W, Calls Try.prog 126 #[.agg (cellsB k).toArray] W fun e w' => (∃ A c, e = .returned (.slice A 17 c) ∧ OB W.heap.size w' A c (leafT k)) ∧ Below W.heap.size W w') := fun W => refLeafText_any k W hk
  have HLL : Hid ((leafT k).length = 17) := by unfold Hid leafT; simp [hk]
  rw [textsS_one]
  generalize leafT k = t at HLT HLL ⊢
  clear hk hr h
  go_enter Try.func69, Try.ntmps69
  go_wp2_with (first
    | (refine wpList_load_mid rfl 23 (.tmp 14) rfl b off rfl (cellsB k) _ HR.out under_key rfl (key_info HK.out) ?_)
    | (go_at_call 126; refine (HLT.out _).mono ?_; rintro e w1 ⟨⟨A1, c1, rfl, ho1⟩, hb1⟩; have HO1 := Lib.hid ho1; have b1 := hb1; clear ho1 hb1))
  go_ret
  refine ⟨⟨_, 1, [⟨A1, c1, t⟩], rfl, rfl, ?_, fun r hr => ?_⟩, b1.alloc b1.size _⟩
  · have := RO.lit w.heap.size w1 ⟨A1, c1, t⟩ b1.size
    simpa only [BRow.v, HLL.out] using this
  · rw [List.mem_singleton.1 hr]
    exact HO1.out.below (alloc_bel _ _)

set_option maxHeartbeats 1000000 in
theorem refTexts_zero (A : Option Addr) (c : Nat) (w : World) :
    Calls Try.prog 69 #[.slice A 0 c] w fun e w' => (∃ A' c' rs, e = .returned (.slice A' rs.length c') ∧ TO w.heap.size w' A' c' rs (textsS [])) ∧ Below w.heap.size w w' := by
  rw [textsS_nil]
  go_enter Try.func69, Try.ntmps69
  go_wp2
  go_ret
  refine ⟨⟨_, 1, [⟨some ⟨w.heap.size, 0, none⟩, 0, []⟩], rfl, rfl, ?_, fun r hr => ?_⟩, alloc2_bel _ _ _⟩
  · have := RO.lit w.heap.size (w.alloc (.cells #[] 5)) ⟨some ⟨w.heap.size, 0, none⟩, 0, []⟩ (by simp)
    rw [World.size_alloc] at this
    exact this
  · rw [List.mem_singleton.1 hr]
    exact (OB.lit0 w.heap.size w (Nat.le_refl _)).below (alloc_bel _ _)

set_option maxHeartbeats 2000000 in
set_option maxRecDepth 100000 in
theorem refTextsOf_any (n : Nat) : ∀ (ks : List (List UInt8)) (A : Option Addr) (c : Nat) (w : World), ks.length = n → n ≤ 1000 → KR w A c ks →
    Calls Try.prog 69 #[.slice A n c] w fun e w' => (∃ A' c' rs, e = .returned (.slice A' rs.length c') ∧ TO w.heap.size w' A' c' rs (textsS ks)) ∧ Below w.heap.size w w' := by
  induction n using Nat.strongRecOn with
  | _ n ih =>
    intro ks A c w hn hbig h
    rcases Nat.lt_or_ge n 2 with h2 | h2
    · rcases Nat.lt_or_ge n 1 with h1 | h1
      · obtain rfl : n = 0 := by omega
        obtain rfl : ks = [] := List.eq_nil_of_length_eq_zero hn
        exact refTexts_zero A c w
      · obtain rfl : n = 1 := by omega
        obtain ⟨k, rfl⟩ := List.length_eq_one_iff.1 hn
        exact refTexts_one k A c w h
    have hs1 := splitS_pos n
    have hs2 := splitS_lt h2
    have hcl : n ≤ c := by have := Rd.le h.1; omega
    have hni : (2 : Int) ≤ (n : Int) := by omega
    have hnb : (n : Int) ≤ 1000 := by omega
    have hne0 : ¬ (n : Int) = 0 := by omega
    have hne1 : ¬ (n : Int) = 1 := by omega
    have HSP : Hid (∀ W, Calls Try.prog 127 #[.int .i64 (n : Int)] W fun e w' => e = .returned (.int .i64 ((splitS n : Nat) : Int)) ∧ W = w') := fun W => refSplit_any n W h2 (by omega)
    have HTEXT : Hid (textsS ks = textsS (ks.take (splitS n)) ++ (textsS (ks.drop (splitS n)) ++ [nodeT (rootS (ks.take (splitS n))) (rootS (ks.drop (splitS n)))])) := by have := textsS_node (l := ks) (by omega); rw [hn] at this; exact this
    have hT1 := textsS_le (splitS n) (ks.take (splitS n)) (by rw [List.length_take]; omega) hs1
    have hT2 := textsS_le (n - splitS n) (ks.drop (splitS n)) (by rw [List.length_drop]; omega) (by omega)
    have HLO : Hid (∀ W, Below w.heap.size w W → Calls Try.prog 69 #[.slice A (splitS n) c] W fun e w' => (∃ A' c' rs, e = .returned (.slice A' rs.length c') ∧ TO W.heap.size w' A' c' rs (textsS (ks.take (splitS n)))) ∧ Below W.heap.size W w') := fun W hW => ih (splitS n) hs2 _ A c W (by rw [List.length_take]; omega) (by omega) ((h.below hW).take _ (by omega))
    have HHI : Hid (∀ W, Below w.heap.size w W → Calls Try.prog 69 #[.slice (dropK A (splitS n) c) (n - splitS n) (c - splitS n)] W fun e w' => (∃ A' c' rs, e = .returned (.slice A' rs.length c') ∧ TO W.heap.size w' A' c' rs (textsS (ks.drop (splitS n)))) ∧ Below W.heap.size W w') := fun W hW => ih (n - splitS n) (by omega) _ _ _ W (by rw [List.length_drop]; omega) (by omega) ((h.below hW).drop _ (by omega))
    have HR1 : Hid (∀ W, Below w.heap.size w W → Calls Try.prog 62 #[.slice A (splitS n) c] W fun e w' => e = .returned (.agg (cellsB (rootS (ks.take (splitS n)))).toArray) ∧ Below W.heap.size W w') := fun W hW => refRootOf_any (splitS n) _ _ _ W (by rw [List.length_take]; omega) (by omega) ((h.below hW).take _ (by omega))
    have HR2 : Hid (∀ W, Below w.heap.size w W → Calls Try.prog 62 #[.slice (dropK A (splitS n) c) (n - splitS n) (c - splitS n)] W fun e w' => e = .returned (.agg (cellsB (rootS (ks.drop (splitS n)))).toArray) ∧ Below W.heap.size W w') := fun W hW => refRootOf_any (n - splitS n) _ _ _ W (by rw [List.length_drop]; omega) (by omega) ((h.below hW).drop _ (by omega))
    have hL1 := rootS_length (ks.take (splitS n))
    have hL2 := rootS_length (ks.drop (splitS n))
    have hsl1 := fun W => slice_keys_to W A n c (splitS n) (by omega)
    have hsl2 := fun W => slice_keys_from W A n c (splitS n) (by omega)
    generalize splitS n = k at HSP HTEXT HLO HHI HR1 HR2 hL1 hL2 hsl1 hsl2 hs1 hs2 hT1 hT2
    generalize rootS (ks.take k) = r1 at HTEXT HR1 hL1
    generalize rootS (ks.drop k) = r2 at HTEXT HR2 hL2
    generalize textsS (ks.take k) = x1 at HTEXT HLO hT1
    generalize textsS (ks.drop k) = x2 at HTEXT HHI hT2
    have HNT : Hid (∀ W, Calls Try.prog 128 #[.agg (cellsB r1).toArray, .agg (cellsB r2).toArray] W fun e w' => (∃ A c, e = .returned (.slice A 33 c) ∧ OB W.heap.size w' A c (nodeT r1 r2)) ∧ Below W.heap.size W w') := fun W => refNodeText_any r1 r2 W hL1 hL2
    have HNL : Hid ((nodeT r1 r2).length = 33) := by unfold Hid nodeT; simp [hL1, hL2]
    generalize nodeT r1 r2 = nt at HTEXT HNT HNL
    have b0 : Below w.heap.size w w := Below.refl _ _
    clear ih h hn hbig hL1 hL2
    go_enter Try.func69, Try.ntmps69
    go_wp2_with (go_at_call 127; refine (HSP.out _).mono ?_; rintro e w1 ⟨rfl, rfl⟩)
    refine wp_region_noPanic ?_
    refine wp_region_held_drew (S := fun _ => True) (by kernel_rfl) trivial (fun hS => ?_)
    refine hd_take 0 (_) rfl rfl (by kernel_rfl) (by kernel_rfl) (by kernel_rfl) (fun _ _ _ h => h) (fun w _ => by go_simp <;> rfl) hS ?_
    refine hd_take 1 (_) rfl rfl (by kernel_rfl) (by kernel_rfl) (by kernel_rfl) (fun _ _ _ h => h) (fun w _ => by go_simp <;> rfl) hS ?_
    refine hd_take 4 (_) rfl rfl (by kernel_rfl) (by kernel_rfl) (by kernel_rfl) (fun _ _ _ h => h) (fun w _ => by go_simp <;> rfl) hS ?_
    refine hd_take 5 (_) rfl rfl (by kernel_rfl) (by kernel_rfl) (by kernel_rfl) (fun _ _ _ h => h) (fun w _ => by go_simp <;> rfl) hS ?_
    simp only [List.getElem_toArray, List.getElem_cons_succ, List.getElem_cons_zero, Act.put, List.setIfInBounds_toArray, List.set_cons_zero, List.set_cons_succ]
    refine hd_take 2 (_) rfl rfl (by kernel_rfl) (by kernel_rfl) (by kernel_rfl) (fun _ _ _ h => h) (fun w _ => by go_simp <;> rfl) hS ?_
    refine hd_take 6 (_) rfl rfl (by kernel_rfl) (by kernel_rfl) (by kernel_rfl) (fun _ _ _ h => h) (fun w _ => by go_simp <;> rfl) hS ?_
    simp only [List.getElem_toArray, List.getElem_cons_succ, List.getElem_cons_zero, Act.put, List.setIfInBounds_toArray, List.set_cons_zero, List.set_cons_succ]
    refine hd_calls 3 69 #[.slice A k c] rfl rfl (by kernel_rfl) (by go_simp) ((HLO.out _ b0.drew).mono ?_)
    rintro e w3 ⟨⟨A3, c3, rs3, rfl, ho3⟩, hb3⟩
    have b3 := bel_on b0.drew hb3
    refine ⟨_, rfl, trivial, ?_⟩
    simp only [List.getElem_toArray, List.getElem_cons_succ, List.getElem_cons_zero, Act.put, List.setIfInBounds_toArray, List.set_cons_zero, List.set_cons_succ]
    refine hd_calls 7 69 #[.slice (dropK A k c) (n - k) (c - k)] rfl rfl (by kernel_rfl) (by go_simp) ((HHI.out _ b3).mono ?_)
    rintro e w4 ⟨⟨A4, c4, rs4, rfl, ho4⟩, hb4⟩
    have b4 := bel_on b3 hb4
    refine ⟨_, rfl, trivial, ?_⟩
    simp only [List.getElem_toArray, List.getElem_cons_succ, List.getElem_cons_zero, Act.put, List.setIfInBounds_toArray, List.set_cons_zero, List.set_cons_succ]
    have ho3' := ho3.below hb4
    have hz4 : w.drew.heap.size ≤ w4.heap.size := b4.size
    have hz3 : w.drew.heap.size ≤ w3.heap.size := b3.size
    have ho4' := ho4.le_ hz3
    have l3 := ho3.len
    have l4 := ho4.len
    obtain ⟨q3, hq3⟩ : ∃ q, rs3.length = q := ⟨_, rfl⟩
    obtain ⟨q4, hq4⟩ : ∃ q, rs4.length = q := ⟨_, rfl⟩
    have hsrc : Src w4 1 A4 q4 (rs4.map BRow.v) := by have := (Rd.of_own ho4.2.1 (by omega)).src; rw [hq4] at this; exact this
    rw [hq3, hq4]
    refine hd_appendR 8 (.tmp 24) (.tmp 28) rfl rfl rfl (by kernel_rfl) w.drew.heap.size A3 q3 c3 rs3 hq3 rfl ho3'.2.1 A4 q4 c4 rs4 hq4 rfl hsrc (by omega) hz4 ?_
    intro A5 c5 w5 ho5 hb5 hg5
    rw [← hq3] at hg5
    have hto5 : TO w.drew.heap.size w5 A5 c5 (rs3 ++ rs4) (x1 ++ x2) := ⟨by rw [List.map_append, ho3.1, ho4.1], ho5, fun r hr => by
      rcases List.mem_append.1 hr with hr | hr
      · exact own_kept (ho3'.2.2 r hr) ho3'.2.1 (by decide) hg5
      · exact own_kept (ho4'.2.2 r hr) ho3'.2.1 (by decide) hg5⟩
    have b5 : Below w.heap.size w w5 := b4.trans hb5
    refine ⟨trivial, ?_⟩
    simp only [List.getElem_toArray, List.getElem_cons_succ, List.getElem_cons_zero, Act.put, List.setIfInBounds_toArray, List.set_cons_zero, List.set_cons_succ]
    refine hd_take 9 (.slice A5 (q3 + q4) c5) rfl rfl (by kernel_rfl) (by kernel_rfl) (by kernel_rfl) (fun _ _ _ h => h) (fun w _ => by go_simp) trivial ?_
    refine wpAnyH_done (by kernel_rfl) (NoPanic.normal ?_) _
    simp only [List.getElem_toArray, List.getElem_cons_succ, List.getElem_cons_zero, Act.put, List.setIfInBounds_toArray, List.set_cons_zero, List.set_cons_succ]
    have HTO5 := Lib.hid hto5
    have HB5 := Lib.hid b5
    have HQ : Hid ((rs3 ++ rs4).length = q3 + q4) := by unfold Hid; rw [List.length_append, hq3, hq4]
    have hqb : q3 + q4 ≤ 2000 := by omega
    generalize rs3 ++ rs4 = rs5 at HTO5 HQ
    generalize q3 + q4 = q5 at HQ hqb ⊢
    clear hto5 ho5 ho3 ho3' ho4 ho4' hsrc hg5 hb5 hb4 hb3 b5 b4 b3 l3 l4 hq3 hq4 hz3 hz4
    go_wp2_with fail
    refine wp_region_noPanic ?_
    refine wp_region_held_drew (S := fun _ => True) (by kernel_rfl) trivial (fun hS => ?_)
    refine hd_take 0 (_) rfl rfl (by kernel_rfl) (by kernel_rfl) (by kernel_rfl) (fun _ _ _ h => h) (fun w _ => by go_simp <;> rfl) hS ?_
    refine hd_take 1 (_) rfl rfl (by kernel_rfl) (by kernel_rfl) (by kernel_rfl) (fun _ _ _ h => h) (fun w _ => by go_simp <;> rfl) hS ?_
    refine hd_take 2 (_) rfl rfl (by kernel_rfl) (by kernel_rfl) (by kernel_rfl) (fun _ _ _ h => h) (fun w _ => by go_simp <;> rfl) hS ?_
    refine hd_take 5 (_) rfl rfl (by kernel_rfl) (by kernel_rfl) (by kernel_rfl) (fun _ _ _ h => h) (fun w _ => by go_simp <;> rfl) hS ?_
    refine hd_take 6 (_) rfl rfl (by kernel_rfl) (by kernel_rfl) (by kernel_rfl) (fun _ _ _ h => h) (fun w _ => by go_simp <;> rfl) hS ?_
    simp only [List.getElem_toArray, List.getElem_cons_succ, List.getElem_cons_zero, Act.put, List.setIfInBounds_toArray, List.set_cons_zero, List.set_cons_succ]
    refine hd_take 3 (_) rfl rfl (by kernel_rfl) (by kernel_rfl) (by kernel_rfl) (fun _ _ _ h => h) (fun w _ => by go_simp <;> rfl) hS ?_
    refine hd_take 7 (_) rfl rfl (by kernel_rfl) (by kernel_rfl) (by kernel_rfl) (fun _ _ _ h => h) (fun w _ => by go_simp <;> rfl) hS ?_
    simp only [List.getElem_toArray, List.getElem_cons_succ, List.getElem_cons_zero, Act.put, List.setIfInBounds_toArray, List.set_cons_zero, List.set_cons_succ]
    refine hd_calls 4 62 #[.slice A k c] rfl rfl (by kernel_rfl) (by go_simp) ((HR1.out _ HB5.out.drew).mono ?_)
    rintro e w6 ⟨rfl, hb6⟩
    have b6 := bel_on HB5.out.drew hb6
    refine ⟨_, rfl, trivial, ?_⟩
    simp only [List.getElem_toArray, List.getElem_cons_succ, List.getElem_cons_zero, Act.put, List.setIfInBounds_toArray, List.set_cons_zero, List.set_cons_succ]
    refine hd_calls 8 62 #[.slice (dropK A k c) (n - k) (c - k)] rfl rfl (by kernel_rfl) (by go_simp) ((HR2.out _ b6).mono ?_)
    rintro e w7 ⟨rfl, hb7⟩
    have b7 := bel_on b6 hb7
    refine ⟨_, rfl, trivial, ?_⟩
    simp only [List.getElem_toArray, List.getElem_cons_succ, List.getElem_cons_zero, Act.put, List.setIfInBounds_toArray, List.set_cons_zero, List.set_cons_succ]
    refine hd_calls 9 128 #[.agg (cellsB r1).toArray, .agg (cellsB r2).toArray] rfl rfl (by kernel_rfl) (by go_simp) ((HNT.out _).mono ?_)
    rintro e w8 ⟨⟨A8, c8, rfl, ho8⟩, hb8⟩
    have b8 := bel_on b7 hb8
    refine ⟨_, rfl, trivial, ?_⟩
    simp only [List.getElem_toArray, List.getElem_cons_succ, List.getElem_cons_zero, Act.put, List.setIfInBounds_toArray, List.set_cons_zero, List.set_cons_succ]
    have to8 := ((((HTO5.out.below (Below.refl _ _).drew).below hb6).below hb7).below hb8).below (alloc_bel w8 (.cells #[.slice A8 33 c8] 24))
    have o9 := (ho8.below (alloc_bel w8 (.cells #[.slice A8 33 c8] 24))).le_ (show w.drew.heap.size ≤ w7.heap.size from b7.size)
    have b9 : Below w.heap.size w (w8.alloc (.cells #[.slice A8 33 c8] 24)) := b8.alloc b8.size _
    have hsrc := src_one w8 (.slice A8 33 c8) 24
    refine hd_sole 10 (by kernel_rfl) (op_run (.slice (some ⟨w8.heap.size, 0, none⟩) 1 1) (w8.alloc (.cells #[.slice A8 33 c8] 24)) rfl rfl (by go_simp) ⟨trivial, ?_⟩)
    simp only [List.getElem_toArray, List.getElem_cons_succ, List.getElem_cons_zero, Act.put, List.setIfInBounds_toArray, List.set_cons_zero, List.set_cons_succ]
    refine hd_appendR 11 (.tmp 30) (.tmp 40) rfl rfl rfl (by kernel_rfl) w.drew.heap.size A5 q5 c5 rs5 HQ.out rfl to8.2.1 (some ⟨w8.heap.size, 0, none⟩) 1 1 [⟨A8, c8, nt⟩] rfl rfl (by simpa only [List.map_cons, List.map_nil, BRow.v, HNL.out] using hsrc) (by omega) b9.size ?_
    intro A10 c10 w10 ho10 hb10 hg10
    rw [← HQ.out] at hg10
    have hto10 : TO w.drew.heap.size w10 A10 c10 (rs5 ++ [⟨A8, c8, nt⟩]) ((x1 ++ x2) ++ [nt]) := ⟨by rw [List.map_append, to8.1]; rfl, ho10, fun r hr => by
      rcases List.mem_append.1 hr with hr | hr
      · exact own_kept (to8.2.2 r hr) to8.2.1 (by decide) hg10
      · rw [List.mem_singleton.1 hr]; exact own_kept o9 to8.2.1 (by decide) hg10⟩
    have b10 : Below w.heap.size w w10 := b9.trans hb10
    refine ⟨trivial, ?_⟩
    simp only [List.getElem_toArray, List.getElem_cons_succ, List.getElem_cons_zero, Act.put, List.setIfInBounds_toArray, List.set_cons_zero, List.set_cons_succ]
    refine hd_take 12 (.slice A10 (q5 + 1) c10) rfl rfl (by kernel_rfl) (by kernel_rfl) (by kernel_rfl) (fun _ _ _ h => h) (fun w _ => by go_simp) trivial ?_
    refine wpAnyH_done (by kernel_rfl) (NoPanic.normal ?_) _
    simp only [List.getElem_toArray, List.getElem_cons_succ, List.getElem_cons_zero, Act.put, List.setIfInBounds_toArray, List.set_cons_zero, List.set_cons_succ]
    have HTO10 := Lib.hid hto10
    have HB10 := Lib.hid b10
    have HQ10 : Hid ((rs5 ++ [(⟨A8, c8, nt⟩ : BRow)]).length = q5 + 1) := by unfold Hid; rw [List.length_append, HQ.out]; rfl
    clear hto10 ho10 to8 o9 hsrc hg10 hb10 b10 b9 b8 ho8 hb8
    go_wp2_with fail
    go_ret
    exact ⟨⟨A10, c10, _, by rw [HQ10.out]; rfl, by rw [HTEXT.out]; have := HTO10.out; rw [List.append_assoc] at this; exact this⟩, HB10.out⟩

set_option maxHeartbeats 1000000 in
theorem refTexts_any (ks : List (List UInt8)) (A : Option Addr) (c : Nat) (w : World) {n : Nat} (hn : ks.length = n) (h : KR w A c ks) :
    Calls Try.prog 18 #[.slice A n c] w fun e w' => TxEnd (textsR ks).1 (textsR ks).2 e w' ∧ Below w.heap.size w w' := by
  have hnl : (n : Int) ≤ 140737488351232 := by have := h.len; omega
  rcases Nat.lt_or_ge 128 n with hw | hw
  · have HS : Hid (textsR ks = ([], 4)) := by unfold Hid textsR; rw [if_pos (by omega)]
    have hbi : (128 : Int) < n := by omega
    clear hn h hw
    go_enter Try.func18, Try.ntmps18
    go_wp2
    go_ret2
    rw [HS.out]
    exact ⟨⟨none, 0, [], rfl, rfl, RR.nil _⟩, Below.refl _ _⟩
  · have HS : Hid (textsR ks = (textsS ks, 0)) := by unfold Hid textsR; rw [if_neg (by omega)]
    have hwi : (n : Int) ≤ 128 := by omega
    have hle : (textsS ks).length ≤ 100000 := by
      rcases Nat.lt_or_ge n 1 with h1 | h1
      · rw [List.eq_nil_of_length_eq_zero (show ks.length = 0 by omega), textsS_nil]; simp
      · have := textsS_le n ks hn h1; omega
    have HLE := Lib.hid hle
    have HSH := Lib.hid (textsS_short n ks hn h.2)
    have HF := Lib.hid (refTextsOf_any n ks A c w hn (by omega) h)
    generalize textsS ks = ts at HS HF HLE HSH
    clear hn h hw hle
    go_enter Try.func18, Try.ntmps18
    go_wp2_with (go_at_call 69; refine (HF.out).mono ?_; rintro e w1 ⟨⟨A1, c1, rs, rfl, ht1⟩, hb1⟩; have HT1 := Lib.hid ht1; have B1 := Lib.hid hb1; generalize hq : rs.length = q; have HQ := Lib.hid hq; clear ht1 hb1 hq)
    go_ret2
    rw [HS.out]
    exact ⟨⟨A1, c1, rs, by rw [HQ.out]; rfl, HT1.out.1, HT1.out.rr HLE.out HSH.out⟩, B1.out⟩
end Go.Proofs.Ytinpiodfpnbllaa

/- The leaf of an entry: the reference's. -/
namespace Go.Proofs.Ytinpiodfpnbllaa
open Go.RowKit
set_option linter.unusedVariables false
set_option linter.unusedSimpArgs false

section
variable {md : Region.Mode} {ops : Array Oper} {Q : Exit → Act → World → Prop} {S : World → Prop} {fuel : Nat} {listed : Array Bool} {a : Act} {w : World}
/-- append to bytes that the call owns, the only operation that may come up. -/
theorem hd_appendB (i : Nat) {oi : Oper} (s x : Operand) (hi : ops[i]? = some oi) (ho : oi.op = .call { callee := .builtin .append, args := #[s, x], argTypes := #[24, 24] }) (hg : oi.guard = none) (hr : Region.ready md ops listed = [i])
    (B : Nat) (A : Option Addr) (n c : Nat) (l : List UInt8) (hn : l.length = n) (hs : a.eval s = .slice A n c) (hown : OB B w A c l)
    (X : Option Addr) (m d : Nat) (news : List UInt8) (hm : news.length = m) (hx : a.eval x = .slice X m d) (hsrc : Src w 1 X m (cellsB news)) (hlen : n + m ≤ 140737488351232) (hB : B ≤ w.heap.size)
    (h : ∀ A' c' w', OB B w' A' c' (l ++ news) → Below B w w' → S w' ∧ wpAnyH Try.prog md ops Q S fuel (listed.setIfInBounds i true) (a.put oi.dst (.slice A' (n + m) c')) w') : wpAnyH Try.prog md ops Q S (fuel + 1) listed a w := by
  obtain ⟨i0, hi0, hz0, hz1, hz2⟩ := info_parts u8_info'
  subst hn hm
  obtain ⟨A', c', w', hrun, h2, h3, h4⟩ := run_append_src (P := Try.prog) w B 24 oi.type 5 i0 (.int .u8 0) 1 1 Try.underlying24 hi0 hz0 hz1 hz2 rfl (by omega) A l.length c (cellsB l) hown X news.length d (cellsB news) hsrc (cellsB_one _) (by simp only [maxLen]; omega) (by omega) hB
  refine hd_one i hi hg hr ?_
  refine Lib.wp_append_run w s x 24 24 ho _ _ hs hx _ w' hrun ?_
  refine h A' c' w' ?_ (grown_below (Below.refl _ _) hown h3 hB (Nat.le_refl _))
  unfold OB
  rw [cellsB_append, List.length_append]
  exact h2
end

theorem by8_nat (m : Nat) (hm : m < 18446744073709551616) : by8 (UInt64.ofNat m) = be8 m := by
  have hn : (UInt64.ofNat m).toNat = m := by rw [UInt64.toNat_ofNat']; omega
  have hb : ∀ k, k < 64 → (UInt64.ofNat m >>> UInt64.ofNat k).toUInt8 = UInt8.ofNat (m / 2 ^ k) := fun k hk => by
    apply UInt8.toNat_inj.1
    rw [UInt64.toNat_toUInt8, toNat_shr _ _ hk, hn, UInt8.toNat_ofNat']
  have e0 : (UInt64.ofNat m).toUInt8 = UInt8.ofNat m := by
    apply UInt8.toNat_inj.1
    rw [UInt64.toNat_toUInt8, hn, UInt8.toNat_ofNat']
  have h8 := hb 8 (by omega)
  have h16 := hb 16 (by omega)
  have h24 := hb 24 (by omega)
  have h32 := hb 32 (by omega)
  have h40 := hb 40 (by omega)
  have h48 := hb 48 (by omega)
  have h56 := hb 56 (by omega)
  unfold by8 be8
  rw [← h8.trans rfl, ← h16.trans rfl, ← h24.trans rfl, ← h32.trans rfl, ← h40.trans rfl, ← h48.trans rfl, ← h56.trans rfl, ← e0]
  rfl
theorem be8_low {p : Nat} (h : p ≤ 65) : be8 p = [0, 0, 0, 0, 0, 0, 0, UInt8.ofNat p] := by
  unfold be8
  rw [show p / 72057594037927936 = 0 from by omega, show p / 281474976710656 = 0 from by omega, show p / 1099511627776 = 0 from by omega, show p / 4294967296 = 0 from by omega, show p / 16777216 = 0 from by omega, show p / 65536 = 0 from by omega, show p / 256 = 0 from by omega]
  rfl

set_option maxHeartbeats 4000000 in
set_option maxRecDepth 100000 in
theorem refLeaf_any (r u : Int) (w : World) (hx : isE (r, u) = true) :
    Calls Try.prog 93 #[.agg #[.int .i64 r, .int .i64 u]] w fun e w' => e = .returned (.agg (cellsB (leafE (r, u))).toArray) ∧ Below w.heap.size w w' := by
  obtain ⟨h0, h1, h2, h3⟩ := isE_iff.1 hx
  simp only at h0 h1 h2 h3
  obtain ⟨m, rfl⟩ := Int.eq_ofNat_of_zero_le h2
  obtain ⟨p, hp⟩ := Int.eq_ofNat_of_zero_le (show 0 ≤ r + 1 by omega)
  have hp65 : p ≤ 65 := by omega
  have HL : Hid (leafE (r, (m : Int)) = by8 (UInt64.ofNat p) ++ by8 (UInt64.ofNat m)) := by
    unfold Hid leafE
    rw [by8_nat p (by omega), by8_nat m (by omega), be8_low hp65, hp]
    rfl
  have hb1 : IntKind.i64.wrap (r + 1) = (p : Int) := by rw [IntKind.wrap_i64]; omega
  have hb2 : IntKind.u64.wrap (p : Int) = (p : Int) := by rw [IntKind.wrap_u64]; omega
  have hb3 : IntKind.u64.wrap (m : Int) = (m : Int) := by rw [IntKind.wrap_u64]; omega
  have HB : ∀ n : Nat, n < 18446744073709551616 → Hid (∀ W, Calls Try.prog 138 #[.int .u64 (n : Int), .int .i64 8] W fun e w' => ∃ A c, e = .returned (.slice A 8 c) ∧ OB W.heap.size w' A c (by8 (UInt64.ofNat n)) ∧ Below W.heap.size W w') := fun n hn W => by
    have h := refBytes_any (UInt64.ofNat n) 8 W (by omega)
    rw [UInt64.toNat_ofNat', Nat.mod_eq_of_lt (by omega), bysN_8] at h
    exact h
  have HP := HB p (by omega)
  have HM := HB m (by omega)
  have LP : Hid ((by8 (UInt64.ofNat p)).length = 8) := rfl
  have LM : Hid ((by8 (UInt64.ofNat m)).length = 8) := rfl
  generalize by8 (UInt64.ofNat p) = tp at HP LP HL
  generalize by8 (UInt64.ofNat m) = tm at HM LM HL
  obtain ⟨t, ht⟩ : ∃ t, leafE (r, (m : Int)) = t := ⟨_, rfl⟩
  have HTL : Hid (t.length = 16) := by unfold Hid; rw [← ht]; rfl
  rw [ht] at HL
  have HT := Lib.hid ht
  have HZ := Lib.hid zero16
  have b0 := alloc3_bel w (.cells #[.int .i64 r, .int .i64 (m : Int)] 79) (.cells (cellsB zeroK).toArray 23) (.cells (cellsB zeroK).toArray 23)
  have B0 := Lib.hid (blk_a0 w #[.int .i64 r, .int .i64 (m : Int)] 79 (.cells (cellsB zeroK).toArray 23) (.cells (cellsB zeroK).toArray 23))
  have B1 := Lib.hid (blk_a1 w (.cells #[.int .i64 r, .int .i64 (m : Int)] 79) (cellsB zeroK).toArray 23 (.cells (cellsB zeroK).toArray 23))
  have B2 := Lib.hid (blk_a2 w (.cells #[.int .i64 r, .int .i64 (m : Int)] 79) (.cells (cellsB zeroK).toArray 23) (cellsB zeroK).toArray 23)
  clear hx h2 h0 h1 h3 HB ht
  go_enter Try.func93, Try.ntmps93
  go_wp2_with fail
  rw [HZ.out]
  obtain ⟨W0, hW0⟩ : ∃ W : World, W = ((w.alloc (.cells #[.int .i64 r, .int .i64 (m : Int)] 79)).alloc (.cells (cellsB zeroK).toArray 23)).alloc (.cells (cellsB zeroK).toArray 23) := ⟨_, rfl⟩
  rw [← hW0] at b0 B0 B1 B2 ⊢
  clear hW0
  refine wp_region_noPanic ?_
  have bw : Below w.heap.size w W0.drew := b0.drew
  have HS : Hid (∀ W, Below W0.heap.size W0 W → W.cell? ⟨w.heap.size, 0, none⟩ = some (.int .i64 r) ∧ W.cell? ⟨w.heap.size, 1, none⟩ = some (.int .i64 (m : Int))) := fun W hW => ⟨(B0.out.below' hW).cell 0, (B0.out.below' hW).cell 1⟩
  have bd : Below W0.heap.size W0 W0.drew := (Below.refl _ _).drew
  refine wp_region_held_drew (S := fun w' => w'.cell? ⟨w.heap.size, 0, none⟩ = some (.int .i64 r) ∧ w'.cell? ⟨w.heap.size, 1, none⟩ = some (.int .i64 (m : Int))) (by kernel_rfl) (HS.out _ bd) (fun hS => ?_)
  refine hd_take 0 (_) rfl rfl (by kernel_rfl) (by kernel_rfl) (by kernel_rfl) (fun _ _ _ h => h) (fun w _ => by go_simp <;> rfl) hS ?_
  refine hd_take 5 (_) rfl rfl (by kernel_rfl) (by kernel_rfl) (by kernel_rfl) (fun _ _ _ h => h) (fun w _ => by go_simp <;> rfl) hS ?_
  simp only [List.getElem_toArray, List.getElem_cons_succ, List.getElem_cons_zero, Act.put, List.setIfInBounds_toArray, List.set_cons_zero, List.set_cons_succ]
  refine hd_take 1 (.int .i64 r) rfl rfl (by kernel_rfl) (by kernel_rfl) (by kernel_rfl) (fun _ _ _ h => h) (fun w h => by have hx := h.1; simp [go_sem, hx]) hS ?_
  refine hd_take 6 (.int .i64 (m : Int)) rfl rfl (by kernel_rfl) (by kernel_rfl) (by kernel_rfl) (fun _ _ _ h => h) (fun w h => by have hx := h.2; simp [go_sem, hx]) hS ?_
  simp only [List.getElem_toArray, List.getElem_cons_succ, List.getElem_cons_zero, Act.put, List.setIfInBounds_toArray, List.set_cons_zero, List.set_cons_succ]
  refine hd_take 2 (.int .i64 (p : Int)) rfl rfl (by kernel_rfl) (by kernel_rfl) (by kernel_rfl) (fun _ _ _ h => h) (fun w _ => by simp [go_sem, hb1]) hS ?_
  refine hd_take 7 (.int .u64 (m : Int)) rfl rfl (by kernel_rfl) (by kernel_rfl) (by kernel_rfl) (fun _ _ _ h => h) (fun w _ => by simp [execOp, Act.eval, Sem.run_bind, go_sem, hb3]) hS ?_
  simp only [List.getElem_toArray, List.getElem_cons_succ, List.getElem_cons_zero, Act.put, List.setIfInBounds_toArray, List.set_cons_zero, List.set_cons_succ]
  refine hd_take 3 (.int .u64 (p : Int)) rfl rfl (by kernel_rfl) (by kernel_rfl) (by kernel_rfl) (fun _ _ _ h => h) (fun w _ => by simp [execOp, Act.eval, Sem.run_bind, go_sem, hb2]) hS ?_
  simp only [List.getElem_toArray, List.getElem_cons_succ, List.getElem_cons_zero, Act.put, List.setIfInBounds_toArray, List.set_cons_zero, List.set_cons_succ]
  refine hd_calls 4 138 #[.int .u64 (p : Int), .int .i64 8] rfl rfl (by kernel_rfl) (by go_simp <;> rfl) ?_
  refine (HP.out _).mono ?_
  rintro e w1 ⟨A1, c1, rfl, ho1, hb1⟩
  have d1 := bel_on bd hb1
  refine ⟨_, rfl, HS.out _ d1, ?_⟩
  simp only [List.getElem_toArray, List.getElem_cons_succ, List.getElem_cons_zero, Act.put, List.setIfInBounds_toArray, List.set_cons_zero, List.set_cons_succ]
  refine hd_calls 8 138 #[.int .u64 (m : Int), .int .i64 8] rfl rfl (by kernel_rfl) (by go_simp <;> rfl) ?_
  refine (HM.out _).mono ?_
  rintro e w2 ⟨A2, c2, rfl, ho2, hb2⟩
  have d2 := bel_on d1 hb2
  refine ⟨_, rfl, HS.out _ d2, ?_⟩
  simp only [List.getElem_toArray, List.getElem_cons_succ, List.getElem_cons_zero, Act.put, List.setIfInBounds_toArray, List.set_cons_zero, List.set_cons_succ]
  refine hd_appendB 9 (.tmp 10) (.tmp 14) rfl rfl rfl (by kernel_rfl) W0.heap.size A1 8 c1 tp LP.out rfl ((ho1.below hb2)) A2 8 c2 tm LM.out rfl ((ho2.br (by rw [LM.out]; omega)).src LM.out) (by omega) d2.size ?_
  intro A3 c3 w3 ho3 hb3
  have d3 := d2.trans hb3
  refine ⟨HS.out _ d3, ?_⟩
  simp only [List.getElem_toArray, List.getElem_cons_succ, List.getElem_cons_zero, Act.put, List.setIfInBounds_toArray, List.set_cons_zero, List.set_cons_succ]
  refine hd_take 10 (_) rfl rfl (by kernel_rfl) (by kernel_rfl) (by kernel_rfl) (fun _ _ _ h => h) (fun w _ => by go_simp <;> rfl) (HS.out _ d3) ?_
  simp only [List.getElem_toArray, List.getElem_cons_succ, List.getElem_cons_zero, Act.put, List.setIfInBounds_toArray, List.set_cons_zero, List.set_cons_succ]
  refine wpAnyH_done (by kernel_rfl) (NoPanic.normal ?_) _
  have K1 := Lib.hid (B1.out.below' d3)
  have K2 := Lib.hid (B2.out.below' d3)
  rw [← HL.out] at ho3
  have HR := Lib.hid ho3
  have bw3 : Below w.heap.size w w3 := bel_on b0 d3
  clear hS bw ho1 ho2 ho3 hb1 hb2 hb3 d1 d2 d3 bd HS
  go_wp2_with fail
  go_loopw [5] (fun vk wr => ∃ k : Nat, k ≤ 16 ∧ vk = .int .i64 (k : Int) ∧ Hid (Blk wr (w.heap.size + 1) 23 (cellsB zeroK).toArray) ∧ Hid (Blk wr (w.heap.size + 1 + 1) 23 (cellsB (padS t k)).toArray) ∧ Hid (OB W0.heap.size wr A3 c3 t) ∧ Below w.heap.size w wr) (fun vk _ => 16 - (intOf vk).toNat)
  case atStart => exact ⟨0, by omega, rfl, K1, K2, HR, bw3⟩
  case round =>
    obtain ⟨k, hk, rfl, HB1, HB2, HR2, hbel⟩ := hrel
    by_cases h1 : k < 16
    · have hki : (k : Int) < 16 := by omega
      obtain ⟨b, off, rfl, hb, hc⟩ := (HR2.out.br (by rw [HTL.out]; omega)).at_ (i := k) (by have := HTL.out; omega)
      have HST := Lib.hid (padS_step t k h1)
      unfold bt at hc
      generalize t.getD k 0 = v at hc HST
      have d0 := (HB2.out.cell k).trans (bytes_get _ k (by rw [padS_length]; omega))
      have f0 := HB2.out.frozen k
      have HB3 : Hid (Blk (wr.setCell ⟨w.heap.size + 1 + 1, k, none⟩ (.int .u8 (v.toNat : Int))) (w.heap.size + 1 + 1) 23 (cellsB (padS t (k + 1))).toArray) := by
        have := HB2.out.set_ k (.int .u8 (v.toNat : Int))
        rw [bytes_set, HST.out] at this
        exact this
      have HOW : Hid (OB W0.heap.size (wr.setCell ⟨w.heap.size + 1 + 1, k, none⟩ (.int .u8 (v.toNat : Int))) (some ⟨b, off, none⟩) c3 t) := own_set_apart HR2.out HB2.out (by decide) k _
      go_wp2_with fail
      go_roundw
      case rel => exact ⟨k + 1, by omega, by go_num, HB1.out.far (p := ⟨w.heap.size + 1 + 1, k, none⟩) (by simp) _, HB3.out, HOW.out, hbel.setCell (p := ⟨w.heap.size + 1 + 1, k, none⟩) (by simp; omega) _⟩
      case measure => simp [intOf]; omega
    · obtain rfl : k = 16 := by omega
      have HF : Hid (padS t 16 = t) := (padS_fin t 16 (.inl rfl)).trans (padK_16 HTL.out)
      rw [HF.out] at HB2
      have hL := HTL.out
      go_wp2_with (first
        | (refine wpList_load_row rfl 23 (.tmp 3) rfl (w.heap.size + 1 + 1) rfl 23 (cellsB t).toArray (0, 0) _ HB2.out under_key rfl (cellsB_size _ hL) ?_)
        | (refine wpList_store_row rfl 23 (.tmp 2) (.tmp 26) rfl (w.heap.size + 1) (cellsB t).toArray rfl rfl 23 (cellsB zeroK).toArray HB1.out (cellsB_size _ hL) (cellsB_sizes _ _ zeroK_length hL) (cellsB_all _) ?_))
      exact bodyPost_ret (results_cell_row rfl _ _ (w.heap.size + 1) _ _ (0, 0) _ rfl (HB1.out.setRow (cellsB t).toArray) under_key rfl (cellsB_size _ hL)) rfl ⟨by rw [HT.out], below_setRow hbel (by omega) _⟩
end Go.Proofs.Ytinpiodfpnbllaa

/- The leaves of a list of entries: the reference's. -/
namespace Go.Proofs.Ytinpiodfpnbllaa
open Go.RowKit
set_option linter.unusedVariables false
set_option linter.unusedSimpArgs false

theorem wpList_build_key {ops : Array Oper} {rest : List Oper} {o : Oper} {a : Act} {w : World} {Q : Exit → Act → World → Prop} (hgd : o.guard = none) (x : Operand) (ho : o.op = .buildSlice 40 1 #[(0, x)]) (k : List UInt8) (hk : k.length = 16) (hx : a.eval x = .agg (cellsB k).toArray)
    (h : wpList Try.prog ops Q rest (a.put o.dst (.slice (some ⟨w.heap.size, 0, none⟩) 1 1)) (w.alloc (.cells (cellsB k).toArray 23))) : wpList Try.prog ops Q (o :: rest) a w :=
  wpList_plain hgd fun K hK => by
    unfold Oper.wp execOp
    rw [ho]
    simp only [List.map_toArray, List.map_cons, List.map_nil, hx, Sem.run_bind, run_build_key w k hk, Result.andThen_ok]
    exact hK _ _ h
theorem OE.kept {B : Nat} {w w' : World} {A X : Option Addr} {c x : Nat} {es : List Ent} {ks : List (List UInt8)} (h : OE B w A c es) (ho : OK16 B w X x ks) (hg : w.grownBy w' (Value.ownBlock (.slice X ks.length x))) : OE B w' A c es := own_kept h ho (by decide) hg

set_option maxHeartbeats 4000000 in
set_option maxRecDepth 100000 in
theorem refLeaves_any (es : List Ent) (hv : ∀ x ∈ es, isE x = true) (A : Option Addr) (c : Nat) (w : World) {n : Nat} (hn : es.length = n) (h : ER w A c es) (hs : n ≤ 1000) :
    Calls Try.prog 87 #[.slice A n c] w fun e w' => (∃ X x, e = .returned (.slice X (n + 2) x) ∧ OK16 w.heap.size w' X x (leavesE es)) ∧ Below w.heap.size w w' := by
  have HN := Lib.hid hn
  have HE := Lib.hid (endedE_isE hv)
  have HEL : Hid ((endedE es).length = n + 2) := by unfold Hid; rw [endedE_length, hn]
  have HLL : Hid ((leavesE es).length = n + 2) := by unfold Hid; rw [leavesE_length, hn]
  have HC : Hid (Calls Try.prog 89 #[.slice A n c] w fun e w' => (∃ X x, e = .returned (.slice X (n + 2) x) ∧ OE w.heap.size w' X x (endedE es)) ∧ Below w.heap.size w w') := refEnded_any es A c w hn h hs
  have HST : Hid (∀ i (hi : i < (endedE es).length), (leavesE es).take (i + 1) = (leavesE es).take i ++ [leafE (endedE es)[i]]) := fun i hi => leavesE_step hi
  generalize endedE es = ds at *
  generalize leavesE es = ls at *
  clear hn h hv
  have hnb : (n : Int) ≤ 1000 := by omega
  go_enter Try.func87, Try.ntmps87
  go_wp2_with (go_at_call 89; refine HC.out.mono ?_; rintro e w1 ⟨⟨X, x, rfl, ho1⟩, b1⟩)
  have E1 := Lib.hid ho1
  clear ho1
  go_loopw [3, 5] (fun vo vi wr => ∃ (i : Nat) (A' : Option Addr) (c' : Nat), i ≤ n + 2 ∧ vi = .int .i64 (i : Int) ∧ vo = .slice A' i c' ∧ Hid (OK16 w.heap.size wr A' c' (ls.take i)) ∧ Hid (OE w.heap.size wr X x ds) ∧ Below w.heap.size w wr) (fun _ vi _ => n + 2 - (intOf vi).toNat)
  case atStart => exact ⟨0, none, 0, by omega, rfl, rfl, OK16.nil _ _, E1, b1⟩
  case round =>
    obtain ⟨i, A', c', hi, rfl, rfl, HO, HR, hbel⟩ := hrel
    by_cases hlt : i < n + 2
    · have hii : (i : Int) < (n : Int) + 2 := by omega
      have hil : i < ds.length := by have := HEL.out; omega
      obtain ⟨b, off, rfl, hb, hc0, hc1⟩ := (HR.out.er (by rw [HEL.out]; omega)).at_ hil
      have HTK := Lib.hid (HST.out i hil)
      have HX := Lib.hid (HE.out _ (List.getElem_mem hil))
      obtain ⟨y, hy⟩ : ∃ y, ds[i] = y := ⟨_, rfl⟩
      rw [hy] at hc0 hc1 HTK HX
      obtain ⟨r, u⟩ := y
      have HTL : Hid ((ls.take i).length = i) := by unfold Hid; rw [List.length_take, HLL.out]; omega
      have HLF : Hid ((leafE (r, u)).length = 16) := leafE_length _
      have HCL : Hid (∀ W, Calls Try.prog 93 #[.agg #[.int .i64 r, .int .i64 u]] W fun e w' => e = .returned (.agg (cellsB (leafE (r, u))).toArray) ∧ Below W.heap.size W w') := fun W => refLeaf_any r u W HX.out
      generalize leafE (r, u) = t at HTK HLF HCL
      simp only at hc0 hc1
      have hcl : (cellsB t).length = 16 := by rw [cellsB_length, HLF.out]
      have hall := all16 t
      clear hil hy HX
      go_wp2_with (first
        | (go_at_call 93; refine (HCL.out _).mono ?_; rintro e w2 ⟨rfl, hb2⟩; have B2 := bel_on hbel hb2; have O2 := Lib.hid ((HO.out.below hb2).below (alloc_bel w2 (.cells (cellsB t).toArray 23))); have B3 := bel_on B2 (alloc_bel w2 (.cells (cellsB t).toArray 23)); have R2 := Lib.hid ((HR.out.below hb2).below (alloc_bel w2 (.cells (cellsB t).toArray 23))); clear hb2)
        | (refine wpList_build_key rfl (.tmp 19) rfl t HLF.out rfl ?_)
        | (at_builtin; refine wpList_append_keysE _ rfl (.tmp 14) (.tmp 20) rfl w.heap.size A' i c' _ HTL.out rfl O2.out (some ⟨w2.heap.size, 0, none⟩) 1 1 [t] rfl rfl (src_key w2 HLF.out) (by omega) B3.size ?_; intro A3 c3 w3 ho3 hb3 hg3; have R3 := Lib.hid (OE.kept R2.out O2.out (by rw [HTL.out]; exact hg3)); clear hg3; have O3 := Lib.hid ho3; have B4 := B3.trans hb3; clear ho3))
      go_roundw
      case rel => exact ⟨i + 1, A3, c3, by omega, by go_num, rfl, by rw [HTK.out]; exact O3.out, R3.out, B4⟩
      case measure => simp [intOf]; omega
    · obtain rfl : i = n + 2 := by omega
      go_wp2_with fail
      go_ret
      refine ⟨⟨A', c', rfl, ?_⟩, hbel⟩
      have := HO.out
      rwa [List.take_of_length_le (by rw [HLL.out]; omega)] at this
end Go.Proofs.Ytinpiodfpnbllaa

/- A list of entries with one at each end, and its leaves: the program's. -/
namespace Go.Proofs.Ytinpiodfpnbllaa
open Go.RowKit
set_option linter.unusedVariables false
set_option linter.unusedSimpArgs false

theorem Blk.ern {w : World} {g : Nat} {l : List Ent} (h : Blk w g 79 (cellsE l).toArray) {n : Nat} (hn : l.length = n) (hs : n ≤ 1000000) : ER w (some ⟨g, 0, none⟩) n l := by
  subst hn
  refine ⟨⟨cellsE_length l, Nat.le_refl _, by omega, by omega⟩, fun _ => ⟨g, 0, rfl, h.lt, fun j v hv => ?_⟩⟩
  rw [Nat.zero_add, h.cell j]
  simpa using hv

set_option maxHeartbeats 4000000 in
set_option maxRecDepth 100000 in
theorem ended_any (es : List Ent) (hv : ∀ x ∈ es, isE x = true) (A : Option Addr) (c : Nat) (w : World) {n : Nat} (hn : es.length = n) (h : ER w A c es) (hs : n ≤ 1000) :
    Calls Try.prog 104 #[.slice A n c] w fun e w' => (∃ X x Y y, e = .returned (.tuple #[.slice X (n + 2) x, .slice Y (n + 2) y]) ∧ OE w.heap.size w' X x (endedE es) ∧ OK16 w.heap.size w' Y y (leavesE es)) ∧ Below w.heap.size w w' := by
  have HN := Lib.hid hn
  have HE := Lib.hid (endedE_isE hv)
  have HEL : Hid ((endedE es).length = n + 2) := by unfold Hid; rw [endedE_length, hn]
  have HLL : Hid ((leavesE es).length = n + 2) := by unfold Hid; rw [leavesE_length, hn]
  have b0 := alloc3_bel w (.cells #[.int .i64 (-1), .int .i64 0] 79) (.cells #[.int .i64 64, .int .i64 0] 79) (.cells #[.slice (some ⟨w.heap.size, 0, none⟩) 1 1, .slice A n c, .slice (some ⟨w.heap.size + 1, 0, none⟩) 1 1] 77)
  have HC : Hid (Calls Try.prog 94 #[.slice (some ⟨w.heap.size + 1 + 1, 0, none⟩) 3 3] (((w.alloc (.cells #[.int .i64 (-1), .int .i64 0] 79)).alloc (.cells #[.int .i64 64, .int .i64 0] 79)).alloc (.cells #[.slice (some ⟨w.heap.size, 0, none⟩) 1 1, .slice A n c, .slice (some ⟨w.heap.size + 1, 0, none⟩) 1 1] 77)) fun e w' => ∃ X x, e = .returned (.slice X (n + 2) x) ∧ OE w.heap.size w' X x (endedE es) ∧ Below w.heap.size w w') := by
    obtain ⟨rs, hrs⟩ : ∃ rs : List ERow, rs = [⟨some ⟨w.heap.size, 0, none⟩, 1, [(-1, 0)]⟩, ⟨A, c, es⟩, ⟨some ⟨w.heap.size + 1, 0, none⟩, 1, [(64, 0)]⟩] := ⟨_, rfl⟩
    have hrl : rs.length = 3 := by rw [hrs]; rfl
    have hcat : catE rs 3 = endedE es := by rw [hrs]; simp [catE, endedE]
    have hcells : (rs.map ERow.v).toArray = #[.slice (some ⟨w.heap.size, 0, none⟩) 1 1, .slice A n c, .slice (some ⟨w.heap.size + 1, 0, none⟩) 1 1] := by rw [hrs]; simp [ERow.v, hn]
    have B0 := blk_a0 w #[.int .i64 (-1), .int .i64 0] 79 (.cells #[.int .i64 64, .int .i64 0] 79) (.cells #[.slice (some ⟨w.heap.size, 0, none⟩) 1 1, .slice A n c, .slice (some ⟨w.heap.size + 1, 0, none⟩) 1 1] 77)
    have B1 := blk_a1 w (.cells #[.int .i64 (-1), .int .i64 0] 79) #[.int .i64 64, .int .i64 0] 79 (.cells #[.slice (some ⟨w.heap.size, 0, none⟩) 1 1, .slice A n c, .slice (some ⟨w.heap.size + 1, 0, none⟩) 1 1] 77)
    have B2 := blk_a2 w (.cells #[.int .i64 (-1), .int .i64 0] 79) (.cells #[.int .i64 64, .int .i64 0] 79) #[.slice (some ⟨w.heap.size, 0, none⟩) 1 1, .slice A n c, .slice (some ⟨w.heap.size + 1, 0, none⟩) 1 1] 77
    have hE := h.below b0
    have b0' := b0
    generalize ((w.alloc (.cells #[.int .i64 (-1), .int .i64 0] 79)).alloc (.cells #[.int .i64 64, .int .i64 0] 79)).alloc (.cells #[.slice (some ⟨w.heap.size, 0, none⟩) 1 1, .slice A n c, .slice (some ⟨w.heap.size + 1, 0, none⟩) 1 1] 77) = W at B0 B1 B2 hE b0' ⊢
    rw [← hcells] at B2
    have hRE : RE W (some ⟨w.heap.size + 1 + 1, 0, none⟩) 3 rs := by
      refine ⟨⟨⟨by rw [List.length_map, Nat.mul_one], by omega, by omega, by omega⟩, fun _ => ⟨w.heap.size + 1 + 1, 0, rfl, B2.lt, fun j v hv => ?_⟩⟩, fun r hr => ?_⟩
      · rw [Nat.zero_add, B2.cell j]
        simpa using hv
      · rw [hrs] at hr
        simp only [List.mem_cons, List.not_mem_nil, or_false] at hr
        rcases hr with rfl | rfl | rfl
        · exact Blk.ern (l := [(-1, 0)]) B0 (n := 1) rfl (by omega)
        · exact hE
        · exact Blk.ern (l := [(64, 0)]) B1 (n := 1) rfl (by omega)
    refine (ConcatE_any _ 3 rs W hrl hRE (N := n + 2) (by rw [hcat, endedE_length, hn]) (by omega) (by omega)).mono ?_
    rintro e w5 ⟨⟨A5, c5, rfl, ho5⟩, hb5⟩
    rw [hcat] at ho5
    exact ⟨A5, c5, rfl, ho5.le_ b0'.size, bel_on b0' hb5⟩
  have HST : Hid (∀ i (hi : i < (endedE es).length), (leavesE es).take (i + 1) = (leavesE es).take i ++ [leafE (endedE es)[i]]) := fun i hi => leavesE_step hi
  generalize endedE es = ds at *
  generalize leavesE es = ls at *
  clear hn h hv b0
  have hnb : (n : Int) ≤ 1000 := by omega
  go_enter Try.func104, Try.ntmps104
  go_wp2_with (go_at_call 94; refine HC.out.mono ?_; rintro e w1 ⟨X, x, rfl, ho1, b1⟩)
  have E1 := Lib.hid ho1
  clear ho1
  go_loopw [5, 17] (fun vo vi wr => ∃ (i : Nat) (A' : Option Addr) (c' : Nat), i ≤ n + 2 ∧ vi = .int .i64 (i : Int) ∧ vo = .slice A' i c' ∧ Hid (OK16 w.heap.size wr A' c' (ls.take i)) ∧ Hid (OE w.heap.size wr X x ds) ∧ Below w.heap.size w wr) (fun _ vi _ => n + 2 - (intOf vi).toNat)
  case atStart => exact ⟨0, none, 0, by omega, rfl, rfl, OK16.nil _ _, E1, b1⟩
  case round =>
    obtain ⟨i, A', c', hi, rfl, rfl, HO, HR, hbel⟩ := hrel
    by_cases hlt : i < n + 2
    · have hii : (i : Int) < (n : Int) + 2 := by omega
      have hil : i < ds.length := by have := HEL.out; omega
      obtain ⟨b, off, rfl, hb, hc0, hc1⟩ := (HR.out.er (by rw [HEL.out]; omega)).at_ hil
      have HTK := Lib.hid (HST.out i hil)
      have HX := Lib.hid (HE.out _ (List.getElem_mem hil))
      obtain ⟨y, hy⟩ : ∃ y, ds[i] = y := ⟨_, rfl⟩
      rw [hy] at hc0 hc1 HTK HX
      obtain ⟨r, u⟩ := y
      have HTL : Hid ((ls.take i).length = i) := by unfold Hid; rw [List.length_take, HLL.out]; omega
      have HLF : Hid ((leafE (r, u)).length = 16) := leafE_length _
      have HCL : Hid (∀ W, Calls Try.prog 91 #[.agg #[.int .i64 r, .int .i64 u]] W fun e w' => e = .returned (.agg (cellsB (leafE (r, u))).toArray) ∧ Below W.heap.size W w') := fun W => leaf_any r u W HX.out
      generalize leafE (r, u) = t at HTK HLF HCL
      simp only at hc0 hc1
      have ba := alloc_bel wr (.cells #[.int .i64 r, .int .i64 u] 79)
      have HB1 := Lib.hid (bel_on hbel ba)
      have HO1 := Lib.hid (HO.out.below ba)
      have HR1 := Lib.hid (HR.out.below ba)
      have HBA := Lib.hid ba
      clear hil hy HX ba
      go_wp2_with (first
        | (go_at_call 91; refine (HCL.out _).mono ?_; rintro e w2 ⟨rfl, hb2⟩; have B2 := bel_on HB1.out hb2; have O2 := Lib.hid ((HO1.out.below hb2).below (alloc_bel w2 (.cells (cellsB t).toArray 23))); have B3 := bel_on B2 (alloc_bel w2 (.cells (cellsB t).toArray 23)); have R2 := Lib.hid ((HR1.out.below hb2).below (alloc_bel w2 (.cells (cellsB t).toArray 23))); clear hb2)
        | (refine wpList_build_key rfl (.tmp 23) rfl t HLF.out rfl ?_)
        | (at_builtin; refine wpList_append_keysE _ rfl (.tmp 21) (.tmp 24) rfl w.heap.size A' i c' _ HTL.out rfl O2.out (some ⟨w2.heap.size, 0, none⟩) 1 1 [t] rfl rfl (src_key w2 HLF.out) (by omega) B3.size ?_; intro A3 c3 w3 ho3 hb3 hg3; have R3 := Lib.hid (OE.kept R2.out O2.out (by rw [HTL.out]; exact hg3)); clear hg3; have O3 := Lib.hid ho3; have B4 := B3.trans hb3; clear ho3))
      go_roundw
      case rel => exact ⟨i + 1, A3, c3, by omega, by go_num, rfl, by rw [HTK.out]; exact O3.out, R3.out, B4⟩
      case measure => simp [intOf]; omega
    · obtain rfl : i = n + 2 := by omega
      go_wp2_with fail
      go_ret2
      refine ⟨⟨X, x, A', c', rfl, HR.out, ?_⟩, hbel⟩
      have := HO.out
      rwa [List.take_of_length_le (by rw [HLL.out]; omega)] at this
end Go.Proofs.Ytinpiodfpnbllaa

/- Merge, Prune, ListRoot and Leaf: the program's. -/
namespace Go.Proofs.Ytinpiodfpnbllaa
open Go.RowKit
set_option linter.unusedVariables false
set_option linter.unusedSimpArgs false

/-- A merged list, and the error. -/
def mgS (a b : List Ent) : List Ent × Int := if validL a = false ∨ validL b = false then ([], 90) else (mergeS a b, 0)
def LsEnd (B : Nat) (v : List Ent × Int) (e : Ending) (w' : World) : Prop := ∃ X x, e = .returned (.tuple #[.slice X v.1.length x, .int .i64 v.2]) ∧ OE B w' X x v.1
theorem mergeS_le (a b : List Ent) : (mergeS a b).length ≤ 64 := by unfold mergeS; exact Nat.le_trans (List.length_filterMap_le _ _) (by simp)

set_option maxHeartbeats 4000000 in
set_option maxRecDepth 100000 in
theorem merge_bad (a b : List Ent) (A X : Option Addr) (c d : Nat) (w : World) {n m : Nat} (hn : a.length = n) (hm : b.length = m) (h : ER w A c a) (h' : ER w X d b) (hv : validL a = false ∨ validL b = false) :
    Calls Try.prog 41 #[.slice A n c, .slice X m d] w fun e w' => LsEnd w.heap.size (mgS a b) e w' ∧ Below w.heap.size w w' := by
  have HS : Hid (mgS a b = ([], 90)) := by unfold Hid mgS; rw [if_pos hv]
  have HA : Hid (∀ W, Below w.heap.size w W → Calls Try.prog 44 #[.slice A n c] W fun e w' => e = .returned (.int .i64 (ckL (validL a))) ∧ Below W.heap.size W w') := fun W hW => checkList_any a A c W hn (h.below hW)
  have HB : Hid (∀ W, Below w.heap.size w W → Calls Try.prog 44 #[.slice X m d] W fun e w' => e = .returned (.int .i64 (ckL (validL b))) ∧ Below W.heap.size W w') := fun W hW => checkList_any b X d W hm (h'.below hW)
  have b0 := Below.refl w.heap.size w
  clear hn hm h h'
  cases ha : validL a with
  | false =>
    rw [ha] at HA
    change Hid (∀ W, Below w.heap.size w W → Calls Try.prog 44 #[.slice A n c] W fun e w' => e = .returned (.int .i64 90) ∧ Below W.heap.size W w') at HA
    clear hv ha
    go_enter Try.func41, Try.ntmps41
    go_wp2_with (go_at_call 44; refine (HA.out _ b0).mono ?_; rintro e w1 ⟨rfl, hb1⟩)
    go_ret2
    unfold LsEnd
    rw [HS.out]
    exact ⟨⟨none, 0, rfl, World.ownsRow_nil _ _ _ _⟩, hb1⟩
  | true =>
    have hb : validL b = false := by
      rcases hv with h | h
      · rw [h] at ha; cases ha
      · exact h
    rw [ha] at HA
    rw [hb] at HB
    change Hid (∀ W, Below w.heap.size w W → Calls Try.prog 44 #[.slice A n c] W fun e w' => e = .returned (.int .i64 0) ∧ Below W.heap.size W w') at HA
    change Hid (∀ W, Below w.heap.size w W → Calls Try.prog 44 #[.slice X m d] W fun e w' => e = .returned (.int .i64 90) ∧ Below W.heap.size W w') at HB
    have tok : True := trivial
    clear hv ha hb
    go_enter Try.func41, Try.ntmps41
    go_wp2_with (first | (go_at_call 44; have _t := tok; refine (HA.out _ b0).mono ?_; rintro e w1 ⟨rfl, hb1⟩; clear tok) | (go_at_call 44; refine (HB.out _ hb1).mono ?_; rintro e w2 ⟨rfl, hb2⟩; have D2 := bel_on hb1 hb2; clear hb2))
    go_ret2
    unfold LsEnd
    rw [HS.out]
    exact ⟨⟨none, 0, rfl, World.ownsRow_nil _ _ _ _⟩, D2⟩

set_option maxHeartbeats 4000000 in
set_option maxRecDepth 100000 in
theorem merge_good (a b : List Ent) (A X : Option Addr) (c d : Nat) (w : World) {n m : Nat} (hn : a.length = n) (hm : b.length = m) (h : ER w A c a) (h' : ER w X d b) (ha : validL a = true) (hb : validL b = true) :
    Calls Try.prog 41 #[.slice A n c, .slice X m d] w fun e w' => LsEnd w.heap.size (mgS a b) e w' ∧ Below w.heap.size w w' := by
  have hla := validL_length ha
  have hlb := validL_length hb
  have HS : Hid (mgS a b = (compE (sortE (a ++ b)), 0)) := by
    unfold Hid mgS
    rw [if_neg (by rw [ha, hb]; simp), compE_merge ha hb (fun x => by rw [sortE_mem, List.mem_append]) (sortE_sorted _)]
  have HA : Hid (∀ W, Below w.heap.size w W → Calls Try.prog 44 #[.slice A n c] W fun e w' => e = .returned (.int .i64 0) ∧ Below W.heap.size W w') := fun W hW => by
    have := checkList_any a A c W hn (h.below hW)
    rw [ha] at this
    exact this
  have HB : Hid (∀ W, Below w.heap.size w W → Calls Try.prog 44 #[.slice X m d] W fun e w' => e = .returned (.int .i64 0) ∧ Below W.heap.size W w') := fun W hW => by
    have := checkList_any b X d W hm (h'.below hW)
    rw [hb] at this
    exact this
  have HC : Hid (∀ W, Below w.heap.size w W → Calls Try.prog 94 #[.slice (some ⟨W.heap.size, 0, none⟩) 2 2] (W.alloc (.cells #[.slice A n c, .slice X m d] 77)) fun e w' => (∃ Y y, e = .returned (.slice Y (n + m) y) ∧ OE w.heap.size w' Y y (a ++ b)) ∧ Below w.heap.size w w') := fun W hW => by
    have hA := (h.below hW).below (alloc_bel W (.cells #[.slice A n c, .slice X m d] 77))
    have hX := (h'.below hW).below (alloc_bel W (.cells #[.slice A n c, .slice X m d] 77))
    have N0 := Blk.new W 77 #[.slice A n c, .slice X m d]
    have hW2 := bel_on hW (alloc_bel W (.cells #[.slice A n c, .slice X m d] 77))
    obtain ⟨rs, hrs⟩ : ∃ rs : List ERow, rs = [⟨A, c, a⟩, ⟨X, d, b⟩] := ⟨_, rfl⟩
    have hrl : rs.length = 2 := by rw [hrs]; rfl
    have hcat : catE rs 2 = a ++ b := by rw [hrs]; simp [catE]
    have hcells : (rs.map ERow.v).toArray = #[.slice A n c, .slice X m d] := by rw [hrs]; simp [ERow.v, hn, hm]
    rw [← hcells] at N0 hA hX hW2 ⊢
    have hRE : RE (W.alloc (.cells (rs.map ERow.v).toArray 77)) (some ⟨W.heap.size, 0, none⟩) 2 rs := by
      refine ⟨⟨⟨by rw [List.length_map, Nat.mul_one], by omega, by omega, by omega⟩, fun _ => ⟨W.heap.size, 0, rfl, N0.lt, fun j v hv => ?_⟩⟩, fun r hr => ?_⟩
      · rw [Nat.zero_add, N0.cell j]
        simpa using hv
      · rw [hrs] at hr
        simp only [List.mem_cons, List.not_mem_nil, or_false] at hr
        rcases hr with rfl | rfl
        · exact hA
        · exact hX
    refine (ConcatE_all _ 2 rs _ hrl hRE (N := n + m) (by rw [hcat, List.length_append, hn, hm]) (by omega)).mono ?_
    rintro e w5 ⟨⟨A5, c5, rfl, ho5⟩, hb5⟩
    rw [hcat] at ho5
    exact ⟨⟨A5, c5, rfl, ho5.le_ hW2.size⟩, bel_on hW2 hb5⟩
  have HSO : Hid (∀ (Y : Option Addr) (y : Nat) W, OE w.heap.size W Y y (a ++ b) → Below w.heap.size w W → Calls Try.prog 95 #[.slice Y (n + m) y, .func (.func 96) #[] #[]] W fun e w' => e = .returned (.tuple #[]) ∧ OE w.heap.size w' Y y (sortE (a ++ b)) ∧ Below w.heap.size W w') := fun Y y W ho hW => sortO_any Y y (a ++ b) W (by rw [List.length_append, hn, hm]) ho hW.size (by omega)
  have HCO : Hid (∀ (Y : Option Addr) (y : Nat) W, OE w.heap.size W Y y (sortE (a ++ b)) → Below w.heap.size w W → Calls Try.prog 99 #[.slice Y (n + m) y, .func (.func 100) #[] #[]] W fun e w' => e = .returned (.slice Y (compE (sortE (a ++ b))).length y) ∧ OE w.heap.size w' Y y (compE (sortE (a ++ b))) ∧ Below w.heap.size W w') := fun Y y W ho hW => compactO_any Y y (sortE (a ++ b)) W (by rw [sortE_length, List.length_append, hn, hm]) ho hW.size (by omega)
  have b0 := Below.refl w.heap.size w
  have tok : True := trivial
  generalize sortE (a ++ b) = s at *
  generalize hk : (compE s).length = k at HCO
  have HK := Lib.hid hk
  clear hn hm h h' ha hb hla hlb hk
  go_enter Try.func41, Try.ntmps41
  go_wp2_with (first
    | (go_at_call 44; have _t := tok; refine (HA.out _ b0).mono ?_; rintro e w1 ⟨rfl, hb1⟩; clear tok)
    | (go_at_call 44; refine (HB.out _ hb1).mono ?_; rintro e w2 ⟨rfl, hb2⟩; have D2 := bel_on hb1 hb2; clear hb2)
    | (go_at_call 94; (with_reducible refine (HC.out _ D2).mono ?_); rintro e w3 ⟨⟨Y, y, rfl, ho3⟩, D3⟩; have O3 := Lib.hid ho3; clear ho3)
    | (go_at_call 95; (with_reducible refine (HSO.out _ _ _ O3.out D3).mono ?_); rintro e w4 ⟨rfl, ho4, hb4⟩; have O4 := Lib.hid ho4; have D4 := D3.trans hb4; clear ho4 hb4)
    | (go_at_call 99; (with_reducible refine (HCO.out _ _ _ O4.out D4).mono ?_); rintro e w5 ⟨rfl, ho5, hb5⟩; have O5 := Lib.hid ho5; have D5 := D4.trans hb5; clear ho5 hb5))
  go_ret2
  unfold LsEnd
  rw [HS.out]
  exact ⟨⟨Y, y, by rw [HK.out]; rfl, O5.out⟩, D5⟩
theorem Merge_any (a b : List Ent) (A X : Option Addr) (c d : Nat) (w : World) {n m : Nat} (hn : a.length = n) (hm : b.length = m) (h : ER w A c a) (h' : ER w X d b) :
    Calls Try.prog 41 #[.slice A n c, .slice X m d] w fun e w' => LsEnd w.heap.size (mgS a b) e w' ∧ Below w.heap.size w w' := by
  by_cases hv : validL a = false ∨ validL b = false
  · exact merge_bad a b A X c d w hn hm h h' hv
  · rw [not_or, Bool.not_eq_false, Bool.not_eq_false] at hv
    exact merge_good a b A X c d w hn hm h h' hv.1 hv.2

/-- A pruned list, and the error. -/
def prS (l : List Ent) (z : Int) : List Ent × Int := if validL l = false then ([], 90) else if z < 0 ∨ 1099511627776 < z then ([], 2) else (pruneS l z, 0)
set_option maxHeartbeats 4000000 in
set_option maxRecDepth 100000 in
theorem prune_bad (l : List Ent) (z : Int) (A : Option Addr) (c : Nat) (w : World) {n : Nat} (hn : l.length = n) (h : ER w A c l) (hv : validL l = false) :
    Calls Try.prog 46 #[.slice A n c, .int .i64 z] w fun e w' => LsEnd w.heap.size (prS l z) e w' ∧ Below w.heap.size w w' := by
  have HS : Hid (prS l z = ([], 90)) := by unfold Hid prS; rw [if_pos hv]
  have HA : Hid (∀ W, Below w.heap.size w W → Calls Try.prog 44 #[.slice A n c] W fun e w' => e = .returned (.int .i64 90) ∧ Below W.heap.size W w') := fun W hW => by
    have := checkList_any l A c W hn (h.below hW)
    rw [hv] at this
    exact this
  have b0 := alloc_bel w (.cells #[.int .i64 z] 3)
  clear hn h hv
  go_enter Try.func46, Try.ntmps46
  go_wp2_with (go_at_call 44; refine (HA.out _ b0).mono ?_; rintro e w1 ⟨rfl, hb1⟩; have D1 := bel_on b0 hb1; clear hb1)
  go_ret2
  unfold LsEnd
  rw [HS.out]
  exact ⟨⟨none, 0, rfl, World.ownsRow_nil _ _ _ _⟩, D1⟩
set_option maxHeartbeats 4000000 in
set_option maxRecDepth 100000 in
theorem prune_out (l : List Ent) (z : Int) (A : Option Addr) (c : Nat) (w : World) {n : Nat} (hn : l.length = n) (h : ER w A c l) (hv : validL l = true) (hz : z < 0 ∨ 1099511627776 < z) :
    Calls Try.prog 46 #[.slice A n c, .int .i64 z] w fun e w' => LsEnd w.heap.size (prS l z) e w' ∧ Below w.heap.size w w' := by
  have HS : Hid (prS l z = ([], 2)) := by unfold Hid prS; rw [if_neg (by rw [hv]; simp), if_pos hz]
  have HA : Hid (∀ W, Below w.heap.size w W → Calls Try.prog 44 #[.slice A n c] W fun e w' => e = .returned (.int .i64 0) ∧ Below W.heap.size W w') := fun W hW => by
    have := checkList_any l A c W hn (h.below hW)
    rw [hv] at this
    exact this
  have b0 := alloc_bel w (.cells #[.int .i64 z] 3)
  have N0 := Lib.hid (Blk.new w 3 #[.int .i64 z])
  clear hn h hv
  rcases hz with hz | hz
  · go_enter Try.func46, Try.ntmps46
    go_wp2_with (go_at_call 44; refine (HA.out _ b0).mono ?_; rintro e w1 ⟨rfl, hb1⟩; have k0 : w1.cell? ⟨w.heap.size, 0, none⟩ = some (.int .i64 z) := (N0.out.below' hb1).cell 0; have D1 := bel_on b0 hb1; clear hb1)
    go_ret2
    unfold LsEnd
    rw [HS.out]
    exact ⟨⟨none, 0, rfl, World.ownsRow_nil _ _ _ _⟩, D1⟩
  · have s0 : decide (z < 0) = false := decide_eq_false (by omega)
    go_enter Try.func46, Try.ntmps46
    go_wp2_with (go_at_call 44; refine (HA.out _ b0).mono ?_; rintro e w1 ⟨rfl, hb1⟩; have k0 : w1.cell? ⟨w.heap.size, 0, none⟩ = some (.int .i64 z) := (N0.out.below' hb1).cell 0; have D1 := bel_on b0 hb1; clear hb1)
    go_ret2
    unfold LsEnd
    rw [HS.out]
    exact ⟨⟨none, 0, rfl, World.ownsRow_nil _ _ _ _⟩, D1⟩
set_option maxHeartbeats 4000000 in
set_option maxRecDepth 100000 in
theorem prune_good (l : List Ent) (z : Int) (A : Option Addr) (c : Nat) (w : World) {n : Nat} (hn : l.length = n) (h : ER w A c l) (hv : validL l = true) (h0 : 0 ≤ z) (h1 : z ≤ 1099511627776) :
    Calls Try.prog 46 #[.slice A n c, .int .i64 z] w fun e w' => LsEnd w.heap.size (prS l z) e w' ∧ Below w.heap.size w w' := by
  have hl := validL_length hv
  have HS : Hid (prS l z = (pruneS l z, 0)) := by unfold Hid prS; rw [if_neg (by rw [hv]; simp), if_neg (by omega)]
  have HA : Hid (∀ W, Below w.heap.size w W → Calls Try.prog 44 #[.slice A n c] W fun e w' => e = .returned (.int .i64 0) ∧ Below W.heap.size W w') := fun W hW => by
    have := checkList_any l A c W hn (h.below hW)
    rw [hv] at this
    exact this
  have b0 := alloc_bel w (.cells #[.int .i64 z] 3)
  have N0 := Lib.hid (Blk.new w 3 #[.int .i64 z])
  have HC : Hid (∀ W, Below w.heap.size w W → Calls Try.prog 102 #[.slice A n c] W fun e w' => (∃ A' c', e = .returned (.slice A' n c') ∧ OE W.heap.size w' A' c' l) ∧ Below W.heap.size W w') := fun W hW => cloneE_any A c l W hn (h.below hW) (by omega)
  have HD : Hid (∀ B Y y W, OE B W Y y l → B ≤ W.heap.size → W.cell? ⟨w.heap.size, 0, none⟩ = some (.int .i64 z) → w.heap.size < B → Calls Try.prog 101 #[.slice Y n y, .func (.func 103) #[] #[.pointer (some ⟨w.heap.size, 0, none⟩)]] W fun e w' => e = .returned (.slice Y (pruneS l z).length y) ∧ OE B w' Y y (pruneS l z) ∧ Below B W w') := fun B Y y W ho hB hp hpB => deleteO_any Y y l z ⟨w.heap.size, 0, none⟩ W hn ho hB hp hpB (by omega)
  have s0 : decide (z < 0) = false := decide_eq_false (by omega)
  have s1 : decide (1099511627776 < z) = false := decide_eq_false (by omega)
  generalize hk : (pruneS l z).length = k at HD
  have HK := Lib.hid hk
  clear hn h hv hl hk h0 h1
  go_enter Try.func46, Try.ntmps46
  go_wp2_with (first
    | (go_at_call 44; refine (HA.out _ b0).mono ?_; rintro e w1 ⟨rfl, hb1⟩; have k0 : w1.cell? ⟨w.heap.size, 0, none⟩ = some (.int .i64 z) := (N0.out.below' hb1).cell 0; have N1 := Lib.hid (N0.out.below' hb1); have D1 := bel_on b0 hb1; clear hb1)
    | (go_at_call 102; refine (HC.out _ D1).mono ?_; rintro e w2 ⟨⟨Y, y, rfl, ho2⟩, hb2⟩; have O2 := Lib.hid ho2; have k1 := Lib.hid (show w2.cell? ⟨w.heap.size, 0, none⟩ = some (.int .i64 z) from (N1.out.below' hb2).cell 0); have HZ2 := Lib.hid hb2.size; have D2 := Lib.hid (bel_on D1 hb2); have HLT := Lib.hid N1.out.lt; clear ho2 hb2 k0)
    | (go_at_call 101; (with_reducible refine (HD.out _ _ _ _ O2.out HZ2.out k1.out HLT.out).mono ?_); rintro e w3 ⟨rfl, ho3, hb3⟩; have O3 := Lib.hid (ho3.le_ D1.size); have D3 := Lib.hid (D2.out.trans (hb3.mono D1.size)); clear ho3 hb3))
  go_ret2
  unfold LsEnd
  rw [HS.out]
  exact ⟨⟨Y, y, by rw [HK.out]; rfl, O3.out⟩, D3.out⟩
theorem Prune_any (l : List Ent) (z : Int) (A : Option Addr) (c : Nat) (w : World) {n : Nat} (hn : l.length = n) (h : ER w A c l) :
    Calls Try.prog 46 #[.slice A n c, .int .i64 z] w fun e w' => LsEnd w.heap.size (prS l z) e w' ∧ Below w.heap.size w w' := by
  cases hv : validL l with
  | false => exact prune_bad l z A c w hn h hv
  | true =>
    by_cases hz : z < 0 ∨ 1099511627776 < z
    · exact prune_out l z A c w hn h hv hz
    · exact prune_good l z A c w hn h hv (by omega) (by omega)
end Go.Proofs.Ytinpiodfpnbllaa

/- ListRoot and Leaf: the program's. -/
namespace Go.Proofs.Ytinpiodfpnbllaa
open Go.RowKit
set_option linter.unusedVariables false
set_option linter.unusedSimpArgs false

attribute [local go_sem] run_storeCells_key run_storeCells_new

/-- The root of a revocation list, and the error. -/
def lrS (l : List Ent) : List UInt8 × Int := if validL l = false then (zeroK, 90) else (rootS (leavesE l), 0)
/-- The leaf of an entry, and the error. -/
def lfS (x : Ent) : List UInt8 × Int := if isE x = true then (leafE x, 0) else (zeroK, 2)

set_option maxHeartbeats 4000000 in
set_option maxRecDepth 100000 in
theorem ListRoot_any (l : List Ent) (A : Option Addr) (c : Nat) (w : World) {n : Nat} (hn : l.length = n) (h : ER w A c l) : Calls Try.prog 48 #[.slice A n c] w fun e w' => e = .returned (.tuple #[.agg (cellsB (lrS l).1).toArray, .int .i64 (lrS l).2]) ∧ Below w.heap.size w w' := by
  have HZ := Lib.hid zero16
  have b0 := alloc_bel w (.cells (cellsB zeroK).toArray 23)
  have B0 := Lib.hid (Blk.new w 23 (cellsB zeroK).toArray)
  have HC : Hid (∀ W, Below w.heap.size w W → Calls Try.prog 44 #[.slice A n c] W fun e w' => e = .returned (.int .i64 (ckL (validL l))) ∧ Below W.heap.size W w') := fun W hW => checkList_any l A c W hn (h.below hW)
  cases hv : validL l with
  | false =>
    have HS : Hid (lrS l = (zeroK, 90)) := by unfold Hid lrS; rw [if_pos hv]
    rw [hv] at HC
    change Hid (∀ W, Below w.heap.size w W → Calls Try.prog 44 #[.slice A n c] W fun e w' => e = .returned (.int .i64 90) ∧ Below W.heap.size W w') at HC
    have hdc : (cellsB zeroK).length = 16 := rfl
    have hall := all16 zeroK
    clear hn h hv
    go_enter Try.func48, Try.ntmps48
    go_wp2_with (first
      | (go_at_call 44; rw [HZ.out]; refine (HC.out _ b0).mono ?_; rintro e w1 ⟨rfl, hb1⟩; have b1 := bel_on b0 hb1; have Q1 := B0.out.below' hb1; have hr1 : (rowAt w1 w.heap.size).size = 16 := (by rw [Q1.row]; rfl); have hf1 := Q1.free; have HQ1 := Lib.hid Q1; clear Q1)
      | ((first | rw [HZ.out] | skip); refine wpList_buildTo rfl 23 #[] rfl (some 11) rfl (cellsB zeroK).toArray (by kernel_rfl) ?_))
    refine bodyPost_ret (v := .tuple #[.agg (cellsB zeroK).toArray, .int .i64 90]) ?_ rfl ⟨by rw [HS.out], below_setRow b1 (Nat.le_refl _) _⟩
    rw [results_cell_tmp Try.results48]
    simp [asAddr, Result.andThen, run_loadVar_row _ w.heap.size _ _ _ (0, 0) _ (HQ1.out.setRow (cellsB zeroK).toArray) under_key rfl (cellsB_size _ rfl)]
  | true =>
    have HS : Hid (lrS l = (rootS (leavesE l), 0)) := by unfold Hid lrS; rw [if_neg (by rw [hv]; simp)]
    rw [hv] at HC
    change Hid (∀ W, Below w.heap.size w W → Calls Try.prog 44 #[.slice A n c] W fun e w' => e = .returned (.int .i64 0) ∧ Below W.heap.size W w') at HC
    have hl := validL_length hv
    have HDL : Hid ((rootS (leavesE l)).length = 16) := rootS_length _
    have HE : Hid (∀ W, Below w.heap.size w W → Calls Try.prog 104 #[.slice A n c] W fun e w' => (∃ X x Y y, e = .returned (.tuple #[.slice X (n + 2) x, .slice Y (n + 2) y]) ∧ OE W.heap.size w' X x (endedE l) ∧ OK16 W.heap.size w' Y y (leavesE l)) ∧ Below W.heap.size W w') := fun W hW => ended_any l (fun x hx => isE_ok ((validL_iff.1 hv).1 x hx)) A c W hn (h.below hW) (by omega)
    have HD : Hid (∀ Y y W, OK16 W.heap.size W Y y (leavesE l) ∨ KR W Y y (leavesE l) → KR W Y y (leavesE l) → Calls Try.prog 61 #[.slice Y (n + 2) y] W fun e w' => e = .returned (.agg (cellsB (rootS (leavesE l))).toArray) ∧ Below W.heap.size W w') := fun Y y W _ hk => root_any (leavesE l) Y y W (by rw [leavesE_length, hn]) (by omega) hk
    have HK : Hid (∀ B W Y y, OK16 B W Y y (leavesE l) → KR W Y y (leavesE l)) := fun B W Y y ho => ho.kr (leavesE_16 l) (by rw [leavesE_length]; omega)
    generalize leavesE l = ls at *
    generalize rootS ls = d at HD HDL HS
    have hdc : (cellsB d).length = 16 := by rw [cellsB_length, HDL.out]
    have hall := all16 d
    clear hn h hv hl
    go_enter Try.func48, Try.ntmps48
    go_wp2_with (first
      | (go_at_call 44; rw [HZ.out]; refine (HC.out _ b0).mono ?_; rintro e w1 ⟨rfl, hb1⟩; have b1 := bel_on b0 hb1; have Q1 := Lib.hid (B0.out.below' hb1); clear hb1)
      | (go_at_call 104; refine (HE.out _ b1).mono ?_; rintro e w2 ⟨⟨X, x, Y, y, rfl, _, hk⟩, hb2⟩; have b2 := bel_on b1 hb2; have Q2 := Lib.hid (Q1.out.below' hb2); have K2 := Lib.hid (HK.out _ _ _ _ hk); clear hk hb2)
      | (go_at_call 61; refine (HD.out _ _ _ (.inr K2.out) K2.out).mono ?_; rintro e w3 ⟨rfl, hb3⟩; have b3 := bel_on b2 hb3; have Q3 := Q2.out.below' hb3; have hr1 : (rowAt w3 w.heap.size).size = 16 := (by rw [Q3.row]; rfl); have hf1 := Q3.free; have HQ3 := Lib.hid Q3; clear Q3 hb3))
    refine bodyPost_ret (v := .tuple #[.agg (cellsB d).toArray, .int .i64 0]) ?_ rfl ⟨by rw [HS.out], below_setRow b3 (Nat.le_refl _) _⟩
    rw [results_cell_tmp Try.results48]
    simp [asAddr, Result.andThen, run_loadVar_row _ w.heap.size _ _ _ (0, 0) _ (HQ3.out.setRow (cellsB d).toArray) under_key rfl (cellsB_size _ HDL.out)]

set_option maxHeartbeats 4000000 in
set_option maxRecDepth 100000 in
theorem Leaf_any (r u : Int) (w : World) : Calls Try.prog 50 #[.agg #[.int .i64 r, .int .i64 u]] w fun e w' => e = .returned (.tuple #[.agg (cellsB (lfS (r, u)).1).toArray, .int .i64 (lfS (r, u)).2]) ∧ Below w.heap.size w w' := by
  have HZ := Lib.hid zero16
  have b0 := alloc2_bel w (.cells #[.int .i64 r, .int .i64 u] 79) (.cells (cellsB zeroK).toArray 23)
  have E0 := Lib.hid (blk_b0 w #[.int .i64 r, .int .i64 u] 79 (.cells (cellsB zeroK).toArray 23))
  have B0 := Lib.hid (blk_b1 w (.cells #[.int .i64 r, .int .i64 u] 79) (cellsB zeroK).toArray 23)
  have HI : Hid (∀ W, Calls Try.prog 90 #[.agg #[.int .i64 r, .int .i64 u]] W fun e w' => e = .returned (.bool (isE (r, u))) ∧ Below W.heap.size W w') := fun W => isEntry_any r u W
  have i0 : ((w.alloc (.cells #[.int .i64 r, .int .i64 u] 79)).alloc (.cells (cellsB zeroK).toArray 23)).cell? ⟨w.heap.size, 0, none⟩ = some (.int .i64 r) := E0.out.cell 0
  have i1 : ((w.alloc (.cells #[.int .i64 r, .int .i64 u] 79)).alloc (.cells (cellsB zeroK).toArray 23)).cell? ⟨w.heap.size, 1, none⟩ = some (.int .i64 u) := E0.out.cell 1
  cases hx : isE (r, u) with
  | false =>
    have HS : Hid (lfS (r, u) = (zeroK, 2)) := by unfold Hid lfS; rw [hx]; rfl
    rw [hx] at HI
    have hdc : (cellsB zeroK).length = 16 := rfl
    have hall := all16 zeroK
    clear hx
    go_enter Try.func50, Try.ntmps50
    go_wp2_with (first
      | (go_at_call 90; rw [HZ.out]; refine (HI.out _).mono ?_; rintro e w1 ⟨rfl, hb1⟩; have b1 := bel_on b0 hb1; have Q1 := B0.out.below' hb1; have hr1 : (rowAt w1 (w.heap.size + 1)).size = 16 := (by rw [Q1.row]; rfl); have hf1 := Q1.free; have HQ1 := Lib.hid Q1; clear Q1 i0 i1)
      | ((first | rw [HZ.out] | skip); refine wpList_buildTo rfl 23 #[] rfl (some 7) rfl (cellsB zeroK).toArray (by kernel_rfl) ?_))
    refine bodyPost_ret (v := .tuple #[.agg (cellsB zeroK).toArray, .int .i64 2]) ?_ rfl ⟨by rw [HS.out], below_setRow b1 (by omega) _⟩
    rw [results_cell_tmp Try.results50]
    simp [asAddr, Result.andThen, run_loadVar_row _ (w.heap.size + 1) _ _ _ (0, 0) _ (HQ1.out.setRow (cellsB zeroK).toArray) under_key rfl (cellsB_size _ rfl)]
  | true =>
    have HS : Hid (lfS (r, u) = (leafE (r, u), 0)) := by unfold Hid lfS; rw [if_pos hx]
    rw [hx] at HI
    have HL : Hid (∀ W, Calls Try.prog 91 #[.agg #[.int .i64 r, .int .i64 u]] W fun e w' => e = .returned (.agg (cellsB (leafE (r, u))).toArray) ∧ Below W.heap.size W w') := fun W => leaf_any r u W hx
    have HDL : Hid ((leafE (r, u)).length = 16) := leafE_length _
    generalize leafE (r, u) = d at HL HDL HS
    have hdc : (cellsB d).length = 16 := by rw [cellsB_length, HDL.out]
    have hall := all16 d
    clear hx
    go_enter Try.func50, Try.ntmps50
    go_wp2_with (first
      | (go_at_call 90; rw [HZ.out]; refine (HI.out _).mono ?_; rintro e w1 ⟨rfl, hb1⟩; have b1 := bel_on b0 hb1; have Q1 := Lib.hid (B0.out.below' hb1); have j0 : w1.cell? ⟨w.heap.size, 0, none⟩ = some (.int .i64 r) := (E0.out.below' hb1).cell 0; have j1 : w1.cell? ⟨w.heap.size, 1, none⟩ = some (.int .i64 u) := (E0.out.below' hb1).cell 1; clear i0 i1 hb1)
      | (go_at_call 91; refine (HL.out _).mono ?_; rintro e w2 ⟨rfl, hb2⟩; have b2 := bel_on b1 hb2; have Q2 := Q1.out.below' hb2; have hr1 : (rowAt w2 (w.heap.size + 1)).size = 16 := (by rw [Q2.row]; rfl); have hf1 := Q2.free; have HQ2 := Lib.hid Q2; clear Q2 hb2 j0 j1))
    refine bodyPost_ret (v := .tuple #[.agg (cellsB d).toArray, .int .i64 0]) ?_ rfl ⟨by rw [HS.out], below_setRow b2 (by omega) _⟩
    rw [results_cell_tmp Try.results50]
    simp [asAddr, Result.andThen, run_loadVar_row _ (w.heap.size + 1) _ _ _ (0, 0) _ (HQ2.out.setRow (cellsB d).toArray) under_key rfl (cellsB_size _ HDL.out)]
end Go.Proofs.Ytinpiodfpnbllaa

/- The reference's Until: what a list says of a receiver. -/
namespace Go.Proofs.Ytinpiodfpnbllaa
open Go.RowKit
set_option linter.unusedVariables false
set_option linter.unusedSimpArgs false

theorem untilS_drop {es : List Ent} {u : Int} {i : Nat} (h : i < es.length) : untilS (es.drop i) u = if es[i].1 = u then es[i].2 else untilS (es.drop (i + 1)) u := by
  rw [List.drop_eq_getElem_cons h]; rfl

set_option maxHeartbeats 4000000 in
set_option maxRecDepth 100000 in
theorem refUntil_any (es : List Ent) (u : Int) (A : Option Addr) (c : Nat) (w : World) {n : Nat} (hn : es.length = n) (h : ER w A c es) :
    Calls Try.prog 88 #[.slice A n c, .int .i64 u] w fun e w' => e = .returned (.int .i64 (untilS es u)) ∧ Below w.heap.size w w' := by
  have hnl : (n : Int) ≤ 140737488351232 := by have := h.len; omega
  have HN := Lib.hid hn
  have H := Lib.hid h
  clear hn h
  go_enter Try.func88, Try.ntmps88
  go_wp2_with fail
  go_loopw [5] (fun vi wr => ∃ i : Nat, i ≤ n ∧ vi = .int .i64 (i : Int) ∧ Hid (untilS es u = untilS (es.drop i) u) ∧ Below w.heap.size w wr) (fun vi _ => n - (intOf vi).toNat)
  case atStart => exact ⟨0, by omega, rfl, by unfold Hid; rfl, Below.refl _ _⟩
  case round =>
    obtain ⟨i, hi, rfl, HV, hbel⟩ := hrel
    by_cases hlt : i < n
    · have hii : (i : Int) < n := by omega
      have hil : i < es.length := by have := HN.out; omega
      obtain ⟨b, off, rfl, hb, hc0, hc1⟩ := (H.out.below hbel).at_ hil
      have HST := Lib.hid (HV.out.trans (untilS_drop hil))
      obtain ⟨x, hx⟩ : ∃ x, es[i] = x := ⟨_, rfl⟩
      rw [hx] at hc0 hc1 HST
      obtain ⟨r, q⟩ := x
      simp only at hc0 hc1 HST
      clear hil hx HV
      by_cases hr : r = u
      · have s0 : (r == u) = true := by simp [hr]
        have HF : Hid (untilS es u = q) := by unfold Hid; rw [HST.out, if_pos hr]
        clear HST hr
        go_wp2_with fail
        all_goals (go_ret; exact ⟨by rw [HF.out]; rfl, hbel⟩)
      · have s0 : (r == u) = false := by simp [hr]
        have HF : Hid (untilS es u = untilS (es.drop (i + 1)) u) := by unfold Hid; rw [HST.out, if_neg hr]
        clear HST hr
        go_wp2_with fail
        go_roundw
        case rel => exact ⟨i + 1, by omega, by go_num, HF, hbel⟩
        case measure => simp [intOf]; omega
    · obtain rfl : i = n := by omega
      have hii : (i : Int) ≤ i := Int.le_refl _
      have HT : Hid (untilS es u = -1) := by unfold Hid; rw [HV.out, List.drop_of_length_le (by have := HN.out; omega)]; rfl
      go_wp2_with fail
      go_ret
      exact ⟨by rw [HT.out]; rfl, hbel⟩
end Go.Proofs.Ytinpiodfpnbllaa
