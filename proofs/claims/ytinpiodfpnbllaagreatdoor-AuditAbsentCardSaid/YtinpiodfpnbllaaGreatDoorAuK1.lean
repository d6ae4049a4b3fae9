/-
  Lemmas and contracts, joined.
-/
import Derived.Test.YtinpiodfpnbllaaGreatDoorAuB2
import Derived.Test.YtinpiodfpnbllaaGreatDoorAuB1
import Derived.Test.YtinpiodfpnbllaaGreatDoorAuB3
set_option linter.unusedSimpArgs false
set_option linter.unusedVariables false
set_option linter.unnecessarySimpa false
/- Two different texts with one digest are found. -/
namespace Go.Proofs.YtinpiodfpnbllaaGreatDoor
open Go.RowKit
set_option linter.unusedVariables false
set_option linter.unusedSimpArgs false
attribute [local go_sem] equalIn_keys

/-- A list of texts in memory. -/
structure TRow where
  A : Option Addr
  c : Nat
  rs : List BRow
def TRow.v (r : TRow) : Value := .slice r.A r.rs.length r.c
def flatT (Ls : List TRow) : List BRow := (Ls.map TRow.rs).flatten
theorem flatT_take {Ls : List TRow} {i : Nat} (h : i < Ls.length) : flatT (Ls.take (i + 1)) = flatT (Ls.take i) ++ (Ls[i]).rs := by
  unfold flatT
  rw [List.take_succ_eq_append_getElem h, List.map_append, List.flatten_append]
  simp
theorem flatT_take_le {Ls : List TRow} (i : Nat) : (flatT (Ls.take i)).length ≤ (flatT Ls).length := by
  have : flatT Ls = flatT (Ls.take i) ++ flatT (Ls.drop i) := by
    unfold flatT
    rw [← List.flatten_append, ← List.map_append, List.take_append_drop]
  rw [this, List.length_append]; omega
theorem flatT_mem {Ls : List TRow} {r : BRow} (h : r ∈ flatT Ls) : ∃ T ∈ Ls, r ∈ T.rs := by
  unfold flatT at h
  obtain ⟨l, hl, hr⟩ := List.mem_flatten.1 h
  obtain ⟨T, hT, rfl⟩ := List.mem_map.1 hl
  exact ⟨T, hT, hr⟩
theorem wpList_append_texts (w : World) {ops : Array Oper} {rest : List Oper} {o : Oper} {a : Act} {Q : Exit → Act → World → Prop} (hgd : o.guard = none) (s x : Operand)
    (ho : o.op = .call { callee := .builtin .append, args := #[s, x], argTypes := #[71, 71] })
    (B : Nat) (A : Option Addr) (n c : Nat) (rs : List BRow) (hn : rs.length = n) (hs : a.eval s = .slice A n c) (hown : RO B w A c rs)
    (X : Option Addr) (m d : Nat) (news : List BRow) (hm : news.length = m) (hx : a.eval x = .slice X m d) (hsrc : Src w 1 X m (news.map BRow.v))
    (hlen : n + m ≤ 1000000) (hB : B ≤ w.heap.size)
    (h : ∀ A' c' w', RO B w' A' c' (rs ++ news) → Below B w w' → wpList Tryz.prog ops Q rest (a.put o.dst (.slice A' (n + m) c')) w') : wpList Tryz.prog ops Q (o :: rest) a w := by
  obtain ⟨i0, hi, hz0, hz1, hz2⟩ := info_parts rows_info
  subst hn hm
  refine wpList_append_src w hgd s x 71 ho B 22 i0 (.slice none 0 0) 1 24 Tryz.underlying71 hi hz0 hz1 hz2 rfl (by omega) A rs.length c (rs.map BRow.v) hs hown X news.length d (news.map BRow.v) hx hsrc (by intro u hu; obtain ⟨r, _, rfl⟩ := List.mem_map.1 hu; rfl)
    (by simp only [maxLen]; omega) (by omega) hB ?_
  intro A' c' w' h1 h2 h3
  refine h A' c' w' ?_ (grown_below (Below.refl _ _) hown h2 hB (Nat.le_refl _))
  unfold RO
  rw [List.map_append, List.length_append]
  exact h1
theorem toList_loop (bs : ByteArray) : ∀ (n i : Nat) (r : List UInt8), bs.size - i = n → ByteArray.toList.loop bs i r = r.reverse ++ bs.data.toList.drop i := by
  intro n
  induction n with
  | zero =>
    intro i r h
    rw [ByteArray.toList.loop, if_neg (by omega)]
    rw [List.drop_eq_nil_of_le (by have h1 : bs.data.toList.length = bs.size := (by rw [Array.length_toList]; rfl); omega)]
    simp
  | succ n ih =>
    intro i r h
    have hi : i < bs.size := by omega
    rw [ByteArray.toList.loop, if_pos hi, ih (i + 1) _ (by omega)]
    have hl : i < bs.data.toList.length := by simpa using hi
    rw [List.drop_eq_getElem_cons hl]
    have : bs.get! i = bs.data.toList[i] := by
      simp only [ByteArray.get!]
      have hx : i < bs.data.size := hi
      rw [getElem!_pos bs.data i hx]
      simp
    simp [this]
theorem toList_inj_ {a b : ByteArray} (h : a.toList = b.toList) : a = b := by
  have e (c : ByteArray) : c.toList = c.data.toList := by
    show ByteArray.toList.loop c 0 [] = _
    rw [toList_loop c _ 0 [] rfl]; simp
  rw [e, e] at h
  cases a; cases b
  have := Array.toList_inj.1 h
  simp at this
  rw [this]
theorem key_ne {x y : List UInt8} (h : x ≠ y) : (x == y) = false := by simpa using h
theorem keybox3_ (w : World) (c0 z0 : Array Value) (t0 : TypeId) {W : World} (hW : W = (w.alloc (.cells z0 t0)).setRow w.heap.size c0) : Below w.heap.size w W ∧ Blk W w.heap.size t0 c0 := by
  subst hW
  exact ⟨below_setRow (alloc_bel w _) (Nat.le_refl _) _, (Blk.new w _ _).setRow _⟩

set_option maxHeartbeats 8000000 in
set_option maxRecDepth 100000 in
theorem clash_any (Ls : List TRow) (g o c : Nat) (w : World) {n : Nat} (hn : Ls.length = n) (hcell : ∀ i T, Ls[i]? = some T → w.cell? ⟨g, o + i, none⟩ = some T.v) (hg : g < w.heap.size) (hRR : ∀ T ∈ Ls, RR w T.A T.c T.rs) (hlen : (flatT Ls).length ≤ 100000) (hn4 : n ≤ 1000) (ho4 : o ≤ 1000) (hts : ∀ T ∈ Ls, ∀ r ∈ T.rs, r.l.length ≤ 16384) (hC : Clash ((flatT Ls).map BRow.l)) :
    Calls Tryz.prog 39 #[.slice (some ⟨g, o, none⟩) n c] w fun e w' => e = .returned (.bool true) ∧ Below w.heap.size w w' := by
  have hni : (n : Int) ≤ 1000 := by omega
  have HN := Lib.hid hn
  have HRR := Lib.hid hRR
  have HTS := Lib.hid hts
  have HCE : Hid (∀ (W : World) i T, Ls[i]? = some T → Below w.heap.size w W → W.cell? ⟨g, o + i, none⟩ = some T.v) := fun W i T h hW => (hW.cell (p := ⟨g, o + i, none⟩) hg).trans (hcell i T h)
  have HGG := Lib.hid hg
  have HLEN := Lib.hid hlen
  have HCL := Lib.hid hC
  clear hn hRR hts hcell hg hlen hC
  go_enter Tryz.func39, Tryz.ntmps39
  go_wp2_with fail
  go_loopw [3, 4] (fun vl vi wr => ∃ (i q c' : Nat) (A : Option Addr), i ≤ n ∧ vi = .int .i64 (i : Int) ∧ vl = .slice A q c' ∧ Hid ((flatT (Ls.take i)).length = q) ∧ Hid (RO w.heap.size wr A c' (flatT (Ls.take i))) ∧ Below w.heap.size w wr) (fun _ vi _ => n - (intOf vi).toNat)
  case atStart => exact ⟨0, 0, 0, none, by omega, rfl, rfl, rfl, RO.nil _ _, Below.refl _ _⟩
  case round =>
    obtain ⟨i, q, c', A, hi, rfl, rfl, HQ, HR, hbel⟩ := hrel
    by_cases hlt : i < n
    · have hii : (i : Int) < n := by omega
      have hi0 : (0 : Int) ≤ i := by omega
      obtain ⟨T, hT⟩ : ∃ T, Ls[i]'(by have := HN.out; omega) = T := ⟨_, rfl⟩
      have hc0 := HCE.out wr i T (by rw [List.getElem?_eq_getElem (by have := HN.out; omega), hT]) hbel
      have hTm : T ∈ Ls := by rw [← hT]; exact List.getElem_mem _
      have hrr := (HRR.out T hTm).on hbel
      have hft : flatT (Ls.take (i + 1)) = flatT (Ls.take i) ++ T.rs := by rw [flatT_take (by have := HN.out; omega), hT]
      have hle := flatT_take_le (Ls := Ls) (i + 1)
      rw [hft, List.length_append] at hle
      have hle2 : (flatT (Ls.take i)).length + T.rs.length ≤ 100000 := Nat.le_trans hle HLEN.out
      obtain ⟨X, d, news⟩ := T
      simp only [TRow.v] at hc0 hrr hft hle2
      obtain ⟨m, hm⟩ : ∃ m, news.length = m := ⟨_, rfl⟩
      rw [hm] at hc0 hle2
      rw [HQ.out] at hle2
      have HSRC : Hid (Src wr 1 X m (news.map BRow.v)) := by unfold Hid; rw [← hm]; have := Rd.src hrr.1; simpa using this
      have HM := Lib.hid hm
      have HFT := Lib.hid hft
      have hqi : (q : Int) + m ≤ 100000 := by omega
      have hgo : g < wr.heap.size := Nat.lt_of_lt_of_le HGG.out hbel.size
      clear hm hft hle hrr hT hTm
      go_wp2_with (at_builtin; refine wpList_append_texts _ rfl (.tmp 17) (.tmp 21) rfl w.heap.size A q c' (flatT (Ls.take i)) HQ.out rfl HR.out X m d news HM.out rfl HSRC.out (by omega) hbel.size ?_; intro A5 c5 w5 hro5 hbl5; have RO5 := Lib.hid hro5; have B5 := hbel.trans hbl5; clear hro5 hbl5)
      go_roundw
      case rel => exact ⟨i + 1, q + m, c5, A5, by omega, by go_num, rfl, by unfold Hid; rw [HFT.out, List.length_append, HQ.out, HM.out], by unfold Hid; rw [HFT.out]; exact RO5.out, B5⟩
      case measure => simp [intOf]; omega
    · obtain rfl : i = n := by omega
      have hii : (i : Int) ≤ i := Int.le_refl _
      have HF : Hid (flatT (Ls.take i) = flatT Ls) := by unfold Hid; rw [← HN.out, List.take_length]
      have hq5 : q ≤ 100000 := by rw [← HQ.out, HF.out]; exact HLEN.out
      have hqi : (q : Int) ≤ 100000 := by omega
      have hB1 : Below w.heap.size w wr := hbel
      have HRW : Hid (RR wr A c' (flatT Ls)) := by
        have := HR.out; rw [HF.out] at this
        exact this.rr (by have := HLEN.out; omega) fun r hr => by
          obtain ⟨T, hT, hr'⟩ := flatT_mem hr
          exact ((HRR.out T hT).2 r hr').below hbel
      have HTL : Hid (∀ r ∈ flatT Ls, r.l.length ≤ 16384) := fun r hr => by
        obtain ⟨T, hT, hr'⟩ := flatT_mem hr
        exact HTS.out T hT r hr'
      have HQ2 : Hid ((flatT Ls).length = q) := by rw [← HF.out]; exact HQ.out
      have hB1 := Lib.hid hbel
      clear hbel
      generalize flatT Ls = rs at HRW HTL HQ2 HCL
      obtain ⟨W1, hW1⟩ : ∃ W, W = wr := ⟨_, rfl⟩
      rw [← hW1] at HRW hB1
      have HW1 := Lib.hid hW1
      clear HR HCE HRR HTS HLEN HF HQ HN HGG hW1
      go_wp2_with fail
      go_loopw [5] (fun vi wr => ∃ i : Nat, i ≤ q ∧ vi = .int .i64 (i : Int) ∧ Hid (∀ a b (ha : a < rs.length) (hb : b < rs.length), b < a → a < i → digS rs[a].l = digS rs[b].l → rs[a].l = rs[b].l) ∧ Below W1.heap.size W1 wr) (fun vi _ => q - (intOf vi).toNat)
      case atStart => exact ⟨0, by omega, rfl, fun a b ha hb h1 h2 => by omega, by rw [← HW1.out]; exact Below.refl _ _⟩
      case round =>
        obtain ⟨u, hu, rfl, HX, hbel⟩ := hrel
        by_cases hlt2 : u < q
        · have hui : (u : Int) < q := by omega
          have hu0 : (0 : Int) ≤ u := by omega
          go_wp2_with fail
          go_loopw [6] (fun vk wr => ∃ k : Nat, k ≤ u ∧ vk = .int .i64 (k : Int) ∧ Hid (∀ b (ha : u < rs.length) (hb : b < rs.length), b < k → digS rs[u].l = digS rs[b].l → rs[u].l = rs[b].l) ∧ Below W1.heap.size W1 wr) (fun vk _ => u - (intOf vk).toNat)
          case atStart => exact ⟨0, by omega, rfl, fun b ha hb h1 => by omega, hbel⟩
          case round =>
            obtain ⟨k, hk, rfl, HY, hbel2⟩ := hrel
            by_cases hlt3 : k < u
            · have hki : (k : Int) < u := by omega
              have hk0 : (0 : Int) ≤ k := by omega
              have hkq : (k : Int) < q := by omega
              obtain ⟨b1, o1, r1, e1, hb1, hr1, hc1, hl1⟩ := HRW.out.cellAt (i := u) (by have := HQ2.out; omega)
              subst e1
              obtain ⟨b2, o2, r2, e2, hb2, hr2, hc2, hl2⟩ := HRW.out.cellAt (i := k) (by have := HQ2.out; omega)
              injection e2 with e2
              injection e2 with e2 e3
              subst e2 e3
              have hs1 := HTL.out r1 (List.mem_of_getElem? hr1)
              have hs2 := HTL.out r2 (List.mem_of_getElem? hr2)
              have HZ1 : Hid (∀ (ha : u < rs.length), rs[u] = r1) := fun ha => by rw [List.getElem?_eq_getElem ha] at hr1; injection hr1
              have HZ2 : Hid (∀ (ha : k < rs.length), rs[k] = r2) := fun ha => by rw [List.getElem?_eq_getElem ha] at hr2; injection hr2
              obtain ⟨A1, d1, l1⟩ := r1
              obtain ⟨A2, d2, l2⟩ := r2
              dsimp only at hc1 hl1 hs1 hc2 hl2 hs2
              obtain ⟨q1, hq1⟩ : ∃ q, l1.length = q := ⟨_, rfl⟩
              obtain ⟨q2, hq2⟩ : ∃ q, l2.length = q := ⟨_, rfl⟩
              rw [hq1] at hc1 hs1
              rw [hq2] at hc2 hs2
              have HH1 : Hid (∀ W, Below W1.heap.size W1 W → Calls Tryz.prog 92 #[.slice A1 q1 d1] W fun e w' => e = .returned (.tuple #[.agg (cellsB (digS l1)).toArray, .int .i64 0]) ∧ Below W.heap.size W w') := fun W hW => Hash_any l1 A1 d1 W hq1 (hl1.below hW) hs1
              have HH2 : Hid (∀ W, Below W1.heap.size W1 W → Calls Tryz.prog 92 #[.slice A2 q2 d2] W fun e w' => e = .returned (.tuple #[.agg (cellsB (digS l2)).toArray, .int .i64 0]) ∧ Below W.heap.size W w') := fun W hW => Hash_any l2 A2 d2 W hq2 (hl2.below hW) hs2
              have HD1 : Hid ((digS l1).length = 16) := digS_length _
              have HD2 : Hid ((digS l2).length = 16) := digS_length _
              have HE : Hid (∀ (ha : u < rs.length) (hb : k < rs.length), (digS rs[u].l = digS rs[k].l → rs[u].l = rs[k].l) ↔ (digS l1 = digS l2 → l1 = l2)) := fun ha hb => by rw [HZ1.out ha, HZ2.out hb]
              have HC1 : Hid (∀ W, Below W1.heap.size W1 W → W.cell? ⟨b1, o1 + u, none⟩ = some (.slice A1 q1 d1)) := fun W hW => (hW.cell (p := ⟨b1, o1 + u, none⟩) hb1).trans hc1
              have HC2 : Hid (∀ W, Below W1.heap.size W1 W → W.cell? ⟨b1, o1 + k, none⟩ = some (.slice A2 q2 d2)) := fun W hW => (hW.cell (p := ⟨b1, o1 + k, none⟩) hb1).trans hc2
              have HB1 : Hid (∀ W, Below W1.heap.size W1 W → BR W A1 d1 l1) := fun W hW => hl1.below hW
              have HB2 : Hid (∀ W, Below W1.heap.size W1 W → BR W A2 d2 l2) := fun W hW => hl2.below hW
              generalize digS l1 = g1 at HH1 HD1 HE
              generalize digS l2 = g2 at HH2 HD2 HE
              have HQ1 := Lib.hid hq1
              have HQ2' := Lib.hid hq2
              have hcx := HC1.out wr hbel2
              have hbx : b1 < wr.heap.size := Nat.lt_of_lt_of_le hb1 hbel2.size
              have D0 := Lib.hid hbel2
              clear hc1 hc2 hl1 hl2 hs1 hs2 hr1 hr2 hq1 hq2 HZ1 HZ2 hbel hb1 hb2 hbel2
              go_wp2_with (first
                | (go_at_call 92; (with_reducible refine (HH1.out _ D0.out).mono ?_); rintro e w1 ⟨rfl, hb⟩; have D1 := Lib.hid (bel_on D0.out hb); clear hb hcx)
                | ((first | rw [zero16] | skip); refine wpList_store_row rfl 24 (.tmp 7) (.tmp 40) rfl w1.heap.size (cellsB g1).toArray rfl rfl 24 (cellsB zeroK).toArray (Blk.new w1 _ _) (cellsB_size _ HD1.out) (cellsB_sizes _ _ zeroK_length HD1.out) (cellsB_all _) ?_; obtain ⟨w2, hV⟩ : ∃ W, W = (w1.alloc (.cells (cellsB zeroK).toArray 24)).setRow w1.heap.size (cellsB g1).toArray := ⟨_, rfl⟩; rw [← hV]; obtain ⟨gb, nb⟩ := keybox3_ _ _ _ _ hV; have D2 := Lib.hid (bel_on D1.out gb); have X2 := Lib.hid nb; have hcx := HC2.out _ D2.out; clear hV gb nb)
                | (go_at_call 92; (with_reducible refine (HH2.out _ D2.out).mono ?_); rintro e w3 ⟨rfl, hb⟩; have D3 := Lib.hid (bel_on D2.out hb); have X3 := Lib.hid (X2.out.below' hb); clear hb hcx)
                | ((first | rw [zero16] | skip); refine wpList_store_row rfl 24 (.tmp 9) (.tmp 48) rfl w3.heap.size (cellsB g2).toArray rfl rfl 24 (cellsB zeroK).toArray (Blk.new w3 _ _) (cellsB_size _ HD2.out) (cellsB_sizes _ _ zeroK_length HD2.out) (cellsB_all _) ?_; obtain ⟨w4, hV⟩ : ∃ W, W = (w3.alloc (.cells (cellsB zeroK).toArray 24)).setRow w3.heap.size (cellsB g2).toArray := ⟨_, rfl⟩; rw [← hV]; obtain ⟨gb, nb⟩ := keybox3_ _ _ _ _ hV; have D4 := Lib.hid (bel_on D3.out gb); have X4 := Lib.hid (X3.out.below' gb); have Y4 := Lib.hid nb; clear hV gb nb))
              have HS : Hid (∀ W, Below w4.heap.size w4 W → W.rangeAt w1.heap.size 0 (cellsB g1) ∧ W.rangeAt w3.heap.size 0 (cellsB g2) ∧ W.cell? ⟨b1, o1 + u, none⟩ = some (.slice A1 q1 d1) ∧ W.cell? ⟨b1, o1 + k, none⟩ = some (.slice A2 q2 d2) ∧ BR W A1 d1 l1 ∧ BR W A2 d2 l2) := fun W hW => ⟨(X4.out.below' hW).range, (Y4.out.below' hW).range, HC1.out _ (bel_on D4.out hW), HC2.out _ (bel_on D4.out hW), HB1.out _ (bel_on D4.out hW), HB2.out _ (bel_on D4.out hW)⟩
              have E4 : Below w4.heap.size w4 w4 := Below.refl _ _
              refine wp_region_noPanic ?_
              refine wp_region_held_drew (S := fun W => W.rangeAt w1.heap.size 0 (cellsB g1) ∧ W.rangeAt w3.heap.size 0 (cellsB g2) ∧ W.cell? ⟨b1, o1 + u, none⟩ = some (.slice A1 q1 d1) ∧ W.cell? ⟨b1, o1 + k, none⟩ = some (.slice A2 q2 d2) ∧ BR W A1 d1 l1 ∧ BR W A2 d2 l2) (by kernel_rfl) (HS.out _ E4.drew) (fun hS => ?_)
              have E4 := Lib.hid (bel_on D4.out E4.drew)
              clear HS D0 D1 D2 D3 X2 X3 X4 Y4
              refine hd_take 0 (_) rfl rfl (by kernel_rfl) (by kernel_rfl) (by kernel_rfl) (fun _ _ _ h => h) (fun w hw => by go_simp <;> rfl) hS ?_
              simp only [List.getElem_toArray, List.getElem_cons_succ, List.getElem_cons_zero, Act.put, List.setIfInBounds_toArray, List.set_cons_zero, List.set_cons_succ]
              refine hd_take 1 (_) rfl rfl (by kernel_rfl) (by kernel_rfl) (by kernel_rfl) (fun _ _ _ h => h) (fun w hw => by go_simp <;> rfl) hS ?_
              simp only [List.getElem_toArray, List.getElem_cons_succ, List.getElem_cons_zero, Act.put, List.setIfInBounds_toArray, List.set_cons_zero, List.set_cons_succ]
              refine hd_take 2 (_) rfl rfl (by kernel_rfl) (by kernel_rfl) (by kernel_rfl) (fun _ _ _ h => h) (fun w hw => by go_simp <;> rfl) hS ?_
              simp only [List.getElem_toArray, List.getElem_cons_succ, List.getElem_cons_zero, Act.put, List.setIfInBounds_toArray, List.set_cons_zero, List.set_cons_succ]
              refine hg_take 3 (_) rfl (by rfl) (by kernel_rfl) (by kernel_rfl) (by kernel_rfl) (fun _ _ _ h => h) (fun w hw => by go_simp <;> rfl) hS ?_
              simp only [List.getElem_toArray, List.getElem_cons_succ, List.getElem_cons_zero, Act.put, List.setIfInBounds_toArray, List.set_cons_zero, List.set_cons_succ]
              refine hg_take 4 (_) rfl (by rfl) (by kernel_rfl) (by kernel_rfl) (by kernel_rfl) (fun _ _ _ h => h) (fun w hw => by go_simp <;> rfl) hS ?_
              simp only [List.getElem_toArray, List.getElem_cons_succ, List.getElem_cons_zero, Act.put, List.setIfInBounds_toArray, List.set_cons_zero, List.set_cons_succ]
              refine hd_take 5 (_) rfl rfl (by kernel_rfl) (by kernel_rfl) (by kernel_rfl) (fun _ _ _ h => h) (fun w hw => by go_simp <;> rfl) hS ?_
              simp only [List.getElem_toArray, List.getElem_cons_succ, List.getElem_cons_zero, Act.put, List.setIfInBounds_toArray, List.set_cons_zero, List.set_cons_succ]
              refine hd_take 6 (_) rfl rfl (by kernel_rfl) (by kernel_rfl) (by kernel_rfl) (fun _ _ _ h => h) (fun w hw => by go_simp <;> rfl) hS ?_
              simp only [List.getElem_toArray, List.getElem_cons_succ, List.getElem_cons_zero, Act.put, List.setIfInBounds_toArray, List.set_cons_zero, List.set_cons_succ]
              refine hg_load 7 (w1.heap.size) 0 (cellsB g1) _ _ rfl rfl (by rfl) (by kernel_rfl) (by kernel_rfl) (by kernel_rfl) (fun _ _ _ h => h) rfl (fun w hw => hw.1) under_key rfl (key_info HD1.out) hS ?_
              simp only [List.getElem_toArray, List.getElem_cons_succ, List.getElem_cons_zero, Act.put, List.setIfInBounds_toArray, List.set_cons_zero, List.set_cons_succ]
              refine hg_load 8 (w3.heap.size) 0 (cellsB g2) _ _ rfl rfl (by rfl) (by kernel_rfl) (by kernel_rfl) (by kernel_rfl) (fun _ _ _ h => h) rfl (fun w hw => hw.2.1) under_key rfl (key_info HD2.out) hS ?_
              simp only [List.getElem_toArray, List.getElem_cons_succ, List.getElem_cons_zero, Act.put, List.setIfInBounds_toArray, List.set_cons_zero, List.set_cons_succ]
              by_cases hdd : g1 = g2
              · have e1 : (g1 == g2) = true := by simpa using hdd
                refine hg_take 9 (.bool true) rfl (by rfl) (by kernel_rfl) (by kernel_rfl) (by kernel_rfl) (fun _ _ _ h => h) (fun w hw => by have hx := equalIn_keys w g1 g2 HD1 HD2; simp [go_sem, hx, e1]) hS ?_
                simp only [List.getElem_toArray, List.getElem_cons_succ, List.getElem_cons_zero, Act.put, List.setIfInBounds_toArray, List.set_cons_zero, List.set_cons_succ]
                refine hd_take 10 (_) rfl rfl (by kernel_rfl) (by kernel_rfl) (by kernel_rfl) (fun _ _ _ h => h) (fun w hw => by go_simp <;> rfl) hS ?_
                simp only [List.getElem_toArray, List.getElem_cons_succ, List.getElem_cons_zero, Act.put, List.setIfInBounds_toArray, List.set_cons_zero, List.set_cons_succ]
                refine hd_take 11 (_) rfl rfl (by kernel_rfl) (by kernel_rfl) (by kernel_rfl) (fun _ _ _ h => h) (fun w hw => by go_simp <;> rfl) hS ?_
                simp only [List.getElem_toArray, List.getElem_cons_succ, List.getElem_cons_zero, Act.put, List.setIfInBounds_toArray, List.set_cons_zero, List.set_cons_succ]
                refine hg_take 12 (_) rfl (by rfl) (by kernel_rfl) (by kernel_rfl) (by kernel_rfl) (fun _ _ _ h => h) (fun w hw => by go_simp <;> rfl) hS ?_
                simp only [List.getElem_toArray, List.getElem_cons_succ, List.getElem_cons_zero, Act.put, List.setIfInBounds_toArray, List.set_cons_zero, List.set_cons_succ]
                refine hg_take 13 (_) rfl (by rfl) (by kernel_rfl) (by kernel_rfl) (by kernel_rfl) (fun _ _ _ h => h) (fun w hw => by go_simp <;> rfl) hS ?_
                simp only [List.getElem_toArray, List.getElem_cons_succ, List.getElem_cons_zero, Act.put, List.setIfInBounds_toArray, List.set_cons_zero, List.set_cons_succ]
                refine hg_take 17 (_) rfl (by rfl) (by kernel_rfl) (by kernel_rfl) (by kernel_rfl) (fun _ _ _ h => h) (fun w hw => by go_simp <;> rfl) hS ?_
                simp only [List.getElem_toArray, List.getElem_cons_succ, List.getElem_cons_zero, Act.put, List.setIfInBounds_toArray, List.set_cons_zero, List.set_cons_succ]
                refine hg_take 18 (_) rfl (by rfl) (by kernel_rfl) (by kernel_rfl) (by kernel_rfl) (fun _ _ _ h => h) (fun w hw => by go_simp <;> rfl) hS ?_
                simp only [List.getElem_toArray, List.getElem_cons_succ, List.getElem_cons_zero, Act.put, List.setIfInBounds_toArray, List.set_cons_zero, List.set_cons_succ]
                refine hg_take 14 (_) rfl (by rfl) (by kernel_rfl) (by kernel_rfl) (by kernel_rfl) (fun _ _ _ h => h) (fun w hw => by go_simp <;> rfl) hS ?_
                simp only [List.getElem_toArray, List.getElem_cons_succ, List.getElem_cons_zero, Act.put, List.setIfInBounds_toArray, List.set_cons_zero, List.set_cons_succ]
                refine hg_take 19 (_) rfl (by rfl) (by kernel_rfl) (by kernel_rfl) (by kernel_rfl) (fun _ _ _ h => h) (fun w hw => by go_simp <;> rfl) hS ?_
                simp only [List.getElem_toArray, List.getElem_cons_succ, List.getElem_cons_zero, Act.put, List.setIfInBounds_toArray, List.set_cons_zero, List.set_cons_succ]
                refine hg_take 15 (.slice A1 q1 d1) rfl (by rfl) (by kernel_rfl) (by kernel_rfl) (by kernel_rfl) (fun _ _ _ h => h) (fun w hw => by have hx := hw.2.2.1; simp [go_sem, hx]) hS ?_
                simp only [List.getElem_toArray, List.getElem_cons_succ, List.getElem_cons_zero, Act.put, List.setIfInBounds_toArray, List.set_cons_zero, List.set_cons_succ]
                refine hg_take 20 (.slice A2 q2 d2) rfl (by rfl) (by kernel_rfl) (by kernel_rfl) (by kernel_rfl) (fun _ _ _ h => h) (fun w hw => by have hx := hw.2.2.2.1; simp [go_sem, hx]) hS ?_
                simp only [List.getElem_toArray, List.getElem_cons_succ, List.getElem_cons_zero, Act.put, List.setIfInBounds_toArray, List.set_cons_zero, List.set_cons_succ]
                refine hg_take 16 (.string (strB l1)) rfl (by rfl) (by kernel_rfl) (by kernel_rfl) (by kernel_rfl) (fun _ _ _ h => h) (fun w hw => by have hx := run_string_br hw.2.2.2.2.1 q1 HQ1.out; simp [execOp, Act.eval, Act.put, Sem.run_bind, hx]) hS ?_
                simp only [List.getElem_toArray, List.getElem_cons_succ, List.getElem_cons_zero, Act.put, List.setIfInBounds_toArray, List.set_cons_zero, List.set_cons_succ]
                refine hg_take 21 (.string (strB l2)) rfl (by rfl) (by kernel_rfl) (by kernel_rfl) (by kernel_rfl) (fun _ _ _ h => h) (fun w hw => by have hx := run_string_br hw.2.2.2.2.2 q2 HQ2'.out; simp [execOp, Act.eval, Act.put, Sem.run_bind, hx]) hS ?_
                simp only [List.getElem_toArray, List.getElem_cons_succ, List.getElem_cons_zero, Act.put, List.setIfInBounds_toArray, List.set_cons_zero, List.set_cons_succ]
                by_cases htt : l1 = l2
                · have e2 : strB l1 = strB l2 := by rw [htt]
                  refine hg_take 22 (.bool false) rfl (by rfl) (by kernel_rfl) (by kernel_rfl) (by kernel_rfl) (fun _ _ _ h => h) (fun w hw => by simp [go_sem, e2]) hS ?_
                  simp only [List.getElem_toArray, List.getElem_cons_succ, List.getElem_cons_zero, Act.put, List.setIfInBounds_toArray, List.set_cons_zero, List.set_cons_succ]
                  refine hd_take 23 (_) rfl rfl (by kernel_rfl) (by kernel_rfl) (by kernel_rfl) (fun _ _ _ h => h) (fun w hw => by go_simp <;> rfl) hS ?_
                  simp only [List.getElem_toArray, List.getElem_cons_succ, List.getElem_cons_zero, Act.put, List.setIfInBounds_toArray, List.set_cons_zero, List.set_cons_succ]
                  refine wpAnyH_done (by kernel_rfl) (NoPanic.normal ?_) _
                  have HEQ := Lib.hid htt
                  clear e1 e2 hS hdd htt HC1 HC2 HB1 HB2
                  go_wp2_with fail
                  go_roundw
                  case rel => exact ⟨k + 1, by omega, by go_num, fun b ha hb h1 => by
                      rcases Nat.lt_or_ge b k with h | h
                      · exact HY.out b ha hb h
                      · obtain rfl : b = k := by omega
                        exact (HE.out ha hb).2 (fun _ => HEQ.out), E4.out⟩
                  case measure => simp [intOf]; omega
                · have e2 : ¬ (strB l1).toList = (strB l2).toList := fun h => htt (strB_inj (toList_inj_ h))
                  refine hg_take 22 (.bool true) rfl (by rfl) (by kernel_rfl) (by kernel_rfl) (by kernel_rfl) (fun _ _ _ h => h) (fun w hw => by simp [go_sem, e2]) hS ?_
                  simp only [List.getElem_toArray, List.getElem_cons_succ, List.getElem_cons_zero, Act.put, List.setIfInBounds_toArray, List.set_cons_zero, List.set_cons_succ]
                  refine hd_take 23 (_) rfl rfl (by kernel_rfl) (by kernel_rfl) (by kernel_rfl) (fun _ _ _ h => h) (fun w hw => by go_simp <;> rfl) hS ?_
                  simp only [List.getElem_toArray, List.getElem_cons_succ, List.getElem_cons_zero, Act.put, List.setIfInBounds_toArray, List.set_cons_zero, List.set_cons_succ]
                  refine wpAnyH_done (by kernel_rfl) (NoPanic.normal ?_) _
                  clear e1 e2 hS hdd htt HC1 HC2 HB1 HB2
                  go_wp2_with fail
                  go_ret
                  exact ⟨rfl, bel_on hB1.out E4.out⟩
              · have e1 : (g1 == g2) = false := key_ne hdd
                refine hg_take 9 (.bool false) rfl (by rfl) (by kernel_rfl) (by kernel_rfl) (by kernel_rfl) (fun _ _ _ h => h) (fun w hw => by have hx := equalIn_keys w g1 g2 HD1 HD2; simp [go_sem, hx, e1]) hS ?_
                simp only [List.getElem_toArray, List.getElem_cons_succ, List.getElem_cons_zero, Act.put, List.setIfInBounds_toArray, List.set_cons_zero, List.set_cons_succ]
                refine hd_take 10 (_) rfl rfl (by kernel_rfl) (by kernel_rfl) (by kernel_rfl) (fun _ _ _ h => h) (fun w hw => by go_simp <;> rfl) hS ?_
                simp only [List.getElem_toArray, List.getElem_cons_succ, List.getElem_cons_zero, Act.put, List.setIfInBounds_toArray, List.set_cons_zero, List.set_cons_succ]
                refine hd_take 11 (_) rfl rfl (by kernel_rfl) (by kernel_rfl) (by kernel_rfl) (fun _ _ _ h => h) (fun w hw => by go_simp <;> rfl) hS ?_
                simp only [List.getElem_toArray, List.getElem_cons_succ, List.getElem_cons_zero, Act.put, List.setIfInBounds_toArray, List.set_cons_zero, List.set_cons_succ]
                refine hg_skip 12 rfl (by rfl) (by kernel_rfl) (by kernel_rfl) (by kernel_rfl) (fun _ _ _ h => h) hS ?_
                simp only [List.getElem_toArray, List.getElem_cons_succ, List.getElem_cons_zero, Act.put, List.setIfInBounds_toArray, List.set_cons_zero, List.set_cons_succ]
                refine hg_skip 13 rfl (by rfl) (by kernel_rfl) (by kernel_rfl) (by kernel_rfl) (fun _ _ _ h => h) hS ?_
                simp only [List.getElem_toArray, List.getElem_cons_succ, List.getElem_cons_zero, Act.put, List.setIfInBounds_toArray, List.set_cons_zero, List.set_cons_succ]
                refine hg_skip 14 rfl (by rfl) (by kernel_rfl) (by kernel_rfl) (by kernel_rfl) (fun _ _ _ h => h) hS ?_
                simp only [List.getElem_toArray, List.getElem_cons_succ, List.getElem_cons_zero, Act.put, List.setIfInBounds_toArray, List.set_cons_zero, List.set_cons_succ]
                refine hg_skip 15 rfl (by rfl) (by kernel_rfl) (by kernel_rfl) (by kernel_rfl) (fun _ _ _ h => h) hS ?_
                simp only [List.getElem_toArray, List.getElem_cons_succ, List.getElem_cons_zero, Act.put, List.setIfInBounds_toArray, List.set_cons_zero, List.set_cons_succ]
                refine hg_skip 16 rfl (by rfl) (by kernel_rfl) (by kernel_rfl) (by kernel_rfl) (fun _ _ _ h => h) hS ?_
                simp only [List.getElem_toArray, List.getElem_cons_succ, List.getElem_cons_zero, Act.put, List.setIfInBounds_toArray, List.set_cons_zero, List.set_cons_succ]
                refine hg_skip 17 rfl (by rfl) (by kernel_rfl) (by kernel_rfl) (by kernel_rfl) (fun _ _ _ h => h) hS ?_
                simp only [List.getElem_toArray, List.getElem_cons_succ, List.getElem_cons_zero, Act.put, List.setIfInBounds_toArray, List.set_cons_zero, List.set_cons_succ]
                refine hg_skip 18 rfl (by rfl) (by kernel_rfl) (by kernel_rfl) (by kernel_rfl) (fun _ _ _ h => h) hS ?_
                simp only [List.getElem_toArray, List.getElem_cons_succ, List.getElem_cons_zero, Act.put, List.setIfInBounds_toArray, List.set_cons_zero, List.set_cons_succ]
                refine hg_skip 19 rfl (by rfl) (by kernel_rfl) (by kernel_rfl) (by kernel_rfl) (fun _ _ _ h => h) hS ?_
                simp only [List.getElem_toArray, List.getElem_cons_succ, List.getElem_cons_zero, Act.put, List.setIfInBounds_toArray, List.set_cons_zero, List.set_cons_succ]
                refine hg_skip 20 rfl (by rfl) (by kernel_rfl) (by kernel_rfl) (by kernel_rfl) (fun _ _ _ h => h) hS ?_
                simp only [List.getElem_toArray, List.getElem_cons_succ, List.getElem_cons_zero, Act.put, List.setIfInBounds_toArray, List.set_cons_zero, List.set_cons_succ]
                refine hg_skip 21 rfl (by rfl) (by kernel_rfl) (by kernel_rfl) (by kernel_rfl) (fun _ _ _ h => h) hS ?_
                simp only [List.getElem_toArray, List.getElem_cons_succ, List.getElem_cons_zero, Act.put, List.setIfInBounds_toArray, List.set_cons_zero, List.set_cons_succ]
                refine hg_skip 22 rfl (by rfl) (by kernel_rfl) (by kernel_rfl) (by kernel_rfl) (fun _ _ _ h => h) hS ?_
                simp only [List.getElem_toArray, List.getElem_cons_succ, List.getElem_cons_zero, Act.put, List.setIfInBounds_toArray, List.set_cons_zero, List.set_cons_succ]
                refine hd_take 23 (_) rfl rfl (by kernel_rfl) (by kernel_rfl) (by kernel_rfl) (fun _ _ _ h => h) (fun w hw => by go_simp <;> rfl) hS ?_
                simp only [List.getElem_toArray, List.getElem_cons_succ, List.getElem_cons_zero, Act.put, List.setIfInBounds_toArray, List.set_cons_zero, List.set_cons_succ]
                refine wpAnyH_done (by kernel_rfl) (NoPanic.normal ?_) _
                have HNE := Lib.hid hdd
                clear e1 hS hdd HC1 HC2 HB1 HB2
                go_wp2_with fail
                go_roundw
                case rel => exact ⟨k + 1, by omega, by go_num, fun b ha hb h1 => by
                    rcases Nat.lt_or_ge b k with h | h
                    · exact HY.out b ha hb h
                    · obtain rfl : b = k := by omega
                      exact (HE.out ha hb).2 (fun h => absurd h HNE.out), E4.out⟩
                case measure => simp [intOf]; omega
            · obtain rfl : k = u := by omega
              have hki : (k : Int) ≤ k := Int.le_refl _
              go_wp2_with fail
              go_roundw
              case rel => exact ⟨k + 1, by omega, by go_num, fun a b ha hb h1 h2 => by
                  rcases Nat.lt_or_ge a k with h | h
                  · exact HX.out a b ha hb h1 h
                  · obtain rfl : a = k := by omega
                    exact HY.out b ha hb h1, hbel2⟩
              case measure => simp [intOf]; omega
        · exfalso
          obtain rfl : u = q := by omega
          obtain ⟨s, hs, t, ht, hne, hd⟩ := HCL.out
          obtain ⟨a, ha, rfl⟩ := List.getElem_of_mem hs
          obtain ⟨b, hb, rfl⟩ := List.getElem_of_mem ht
          rw [List.getElem_map, List.getElem_map] at hne hd
          rw [List.length_map] at ha hb
          have hq := HQ2.out
          rcases Nat.lt_trichotomy a b with h | h | h
          · exact hne ((HX.out b a hb ha h (by omega) hd.symm).symm)
          · subst h; exact hne rfl
          · exact hne (HX.out a b ha hb h (by omega) hd)
end Go.Proofs.YtinpiodfpnbllaaGreatDoor

/- Two different texts with one digest among two or three lists of texts. -/
namespace Go.Proofs.YtinpiodfpnbllaaGreatDoor
open Go.RowKit
set_option linter.unusedVariables false
set_option linter.unusedSimpArgs false

theorem clash3_any (A1 : Option Addr) (c1 : Nat) (rs1 : List BRow) (A2 : Option Addr) (c2 : Nat) (rs2 : List BRow) (A3 : Option Addr) (c3 : Nat) (rs3 : List BRow) (W : World) {n1 n2 n3 : Nat} (hn1 : rs1.length = n1) (hn2 : rs2.length = n2) (hn3 : rs3.length = n3) (h1 : RR W A1 c1 rs1) (h2 : RR W A2 c2 rs2) (h3 : RR W A3 c3 rs3) (l1 : n1 ≤ 30000) (l2 : n2 ≤ 30000) (l3 : n3 ≤ 30000)
    (t1 : ∀ t ∈ rs1.map BRow.l, t.length ≤ 16384) (t2 : ∀ t ∈ rs2.map BRow.l, t.length ≤ 16384) (t3 : ∀ t ∈ rs3.map BRow.l, t.length ≤ 16384) (hC : Clash (rs1.map BRow.l ++ (rs2.map BRow.l ++ rs3.map BRow.l))) :
    Calls Tryz.prog 39 #[.slice (some ⟨W.heap.size, 0, none⟩) 3 3] (W.alloc (.cells #[.slice A1 n1 c1, .slice A2 n2 c2, .slice A3 n3 c3] 71)) fun e w' => e = .returned (.bool true) ∧ Below W.heap.size W w' := by
  subst hn1 hn2 hn3
  have b0 := alloc_bel W (.cells #[.slice A1 rs1.length c1, .slice A2 rs2.length c2, .slice A3 rs3.length c3] 71)
  have B := Blk.new W 71 #[.slice A1 rs1.length c1, .slice A2 rs2.length c2, .slice A3 rs3.length c3]
  refine (clash_any [⟨A1, c1, rs1⟩, ⟨A2, c2, rs2⟩, ⟨A3, c3, rs3⟩] W.heap.size 0 3 _ rfl (fun i T hT => ?_) (by simp) (fun T hT => ?_) ?_ (by simp) (by omega) (fun T hT => ?_) ?_).mono fun e w' ⟨he, hb⟩ => ⟨he, bel_on b0 hb⟩
  · match i, hT with
    | 0, hT => injection hT with hT; subst hT; exact B.cell 0
    | 1, hT => injection hT with hT; subst hT; exact B.cell 1
    | 2, hT => injection hT with hT; subst hT; exact B.cell 2
    | i + 3, hT => simp at hT
  · simp only [List.mem_cons, List.not_mem_nil, or_false] at hT
    rcases hT with rfl | rfl | rfl
    · exact h1.on b0
    · exact h2.on b0
    · exact h3.on b0
  · simp [flatT]; omega
  · simp only [List.mem_cons, List.not_mem_nil, or_false] at hT
    rcases hT with rfl | rfl | rfl
    · exact fun r hr => t1 _ (List.mem_map_of_mem hr)
    · exact fun r hr => t2 _ (List.mem_map_of_mem hr)
    · exact fun r hr => t3 _ (List.mem_map_of_mem hr)
  · simpa [flatT] using hC
end Go.Proofs.YtinpiodfpnbllaaGreatDoor
