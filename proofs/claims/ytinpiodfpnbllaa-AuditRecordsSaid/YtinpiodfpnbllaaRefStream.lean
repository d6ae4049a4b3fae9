/-
  The reference's Stream.
-/
import Derived.Test.YtinpiodfpnbllaaStreamPlain
import Derived.Test.YtinpiodfpnbllaaHeldKit
namespace Go.Proofs.Ytinpiodfpnbllaa
open Go.RowKit
set_option linter.unusedVariables false

theorem blk_grown {B : Nat} {w w' : World} {g : Nat} {t : TypeId} {cs : Array Value} {A : Option Addr} {c n : Nat} {l : List UInt8} (h : Blk w g t cs) (ho : OB B w A c l) (hn : l.length = n) (hne : t ≠ 5) (hg : w.grownBy w' (Value.ownBlock (.slice A n c))) : Blk w' g t cs := by
  subst hn
  refine (hg.block g h.lt ?_).trans h
  rcases ho.2 with ⟨hv, _⟩ | ⟨g', cap, cur, hv, _, hh, _⟩
  · injection hv with h1
    subst h1
    simp [Value.ownBlock]
  · injection hv with h1
    subst h1
    intro e
    have e' : g = g' := by simpa [Value.ownBlock] using e
    subst e'
    unfold Blk at h
    rw [hh] at h
    injection h with h
    injection h with _ ht
    exact hne ht.symm

set_option maxHeartbeats 4000000 in
set_option maxRecDepth 100000 in
theorem refStream_any (k : List UInt8) (n : UInt64) (A : Option Addr) (c : Nat) (b : List UInt8) (w : World) {L : Nat} (hL : b.length = L) (h : BR w A c b) (hk : k.length = 16) :
    Calls Try.prog 55 #[.agg (cellsB k).toArray, .int .u64 (n.toNat : Int), .slice A L c] w fun e w' => BytesErr w.heap.size (strR k n b) e w' ∧ Below w.heap.size w w' := by
  have hl0 : (L : Int) ≤ 140737488351232 := by have := h.len; omega
  have HL := Lib.hid hL
  have H := Lib.hid h
  have HK := Lib.hid hk
  have b0 := alloc_bel w (.cells (cellsB k).toArray 23)
  have HZ := Lib.hid zero16
  by_cases hbig : 16384 < L
  · have hbi : (16384 : Int) < L := by omega
    have HS : Hid (strR k n b = ([], 4)) := by unfold Hid strR; rw [if_pos (by omega)]
    clear hL h hk hbig
    go_enter Try.func55, Try.ntmps55
    go_wp2_with fail
    go_ret2
    exact ⟨bytesErr_nil _ _ _ HS.out, b0⟩
  · have hbi : (L : Int) ≤ 16384 := by omega
    have HS : Hid (strR k n b = (streamS k n b, 0)) := by unfold Hid strR; rw [if_neg (by omega)]
    clear hL h hk hbig
    go_enter Try.func55, Try.ntmps55
    go_wp2_with fail
    go_loopw [8, 9] (fun vo vi wr => ∃ (i q : Nat) (A' : Option Addr) (c' : Nat), i ≤ (L + 15) / 16 ∧ (16 * i ≤ L ∧ q = 16 * i ∨ L ≤ 16 * i ∧ q = L) ∧ vi = .int .i64 (i : Int) ∧ vo = .slice A' q c' ∧ Hid (OB w.heap.size wr A' c' ((streamS k n b).take q)) ∧ Hid (Blk wr w.heap.size 23 (cellsB k).toArray) ∧ Below w.heap.size w wr) (fun _ vi _ => (L + 15) / 16 - (intOf vi).toNat)
    case atStart => exact ⟨0, 0, none, 0, by omega, by omega, rfl, rfl, OB.nil' _ _, Blk.new _ _ _, b0⟩
    case round =>
      obtain ⟨i, q, A', c', hi, hq, rfl, rfl, HO, HB, hbel⟩ := hrel
      by_cases hlt : i < (L + 15) / 16
      · have hq2 : q = 16 * i := by omega
        subst hq2
        have hii : (i : Int) < (((L + 15) / 16 : Nat) : Int) := by omega
        have h16 : 16 * i < L := by omega
        have hi2 : i < 2000 := by omega
        have HPO : Hid (∀ W, Below wr.heap.size wr W → Calls Try.prog 113 #[.slice A L c, .int .i64 (i : Int)] W fun e w' => e = .returned (.agg (cellsB (padK (b.drop (16 * i)))).toArray) ∧ Below W.heap.size W w') := fun W hW => portion_any A c b i W HL.out (H.out.below (hbel.trans (hW.mono hbel.size))) (by omega)
        have hwr : IntKind.u64.wrap (i : Int) = ((UInt64.ofNat i).toNat : Int) := by
          rw [UInt64.toNat_ofNat', Nat.mod_eq_of_lt (by omega), IntKind.wrap_u64]; omega
        have HBL : Hid (∀ W, Below wr.heap.size wr W → Calls Try.prog 114 #[.int .u8 1, .int .u64 ((UInt64.ofNat i).toNat : Int), .int .u64 (n.toNat : Int)] W fun e w' => e = .returned (.agg (cellsB (tagS 1 (UInt64.ofNat i) n)).toArray) ∧ Below W.heap.size W w') := fun W _ => refTag_any 1 (UInt64.ofNat i) n W (by rw [UInt64.toNat_ofNat', Nat.mod_eq_of_lt (by omega)]; omega)
        have HEN : Hid (∀ W, Below wr.heap.size wr W → Calls Try.prog 56 #[.agg (cellsB k).toArray, .agg (cellsB (tagS 1 (UInt64.ofNat i) n)).toArray] W fun e w' => e = .returned (.agg (cellsB (encS k (tagS 1 (UInt64.ofNat i) n))).toArray) ∧ Below W.heap.size W w') := fun W _ => refEncrypt_any k _ W HK.out rfl
        have HXO : Hid (∀ W, Below wr.heap.size wr W → Calls Try.prog 112 #[.agg (cellsB (padK (b.drop (16 * i)))).toArray, .agg (cellsB (encS k (tagS 1 (UInt64.ofNat i) n))).toArray] W fun e w' => e = .returned (.agg (cellsB (xorS (padK (b.drop (16 * i))) (encS k (tagS 1 (UInt64.ofNat i) n)))).toArray) ∧ Below W.heap.size W w') := fun W _ => refXor_any _ _ W (padK_length _) rfl
        have HXA : Hid (∀ j, j < 16 → 16 * i + j < b.length → (xorS (padK (b.drop (16 * i))) (encS k (tagS 1 (UInt64.ofNat i) n))).getD j 0 = stB1 k n b (16 * i + j)) := fun j hj hl => stream_at hj hl
        have HXL : Hid ((xorS (padK (b.drop (16 * i))) (encS k (tagS 1 (UInt64.ofNat i) n))).length = 16) := xorS_length _ _
        generalize xorS (padK (b.drop (16 * i))) (encS k (tagS 1 (UInt64.ofNat i) n)) = x at HXO HXA HXL
        generalize encS k (tagS 1 (UInt64.ofNat i) n) = e at HEN HXO
        generalize tagS 1 (UInt64.ofNat i) n = t at HBL HEN
        generalize padK (b.drop (16 * i)) = p at HPO HXO
        generalize UInt64.ofNat i = v at HBL hwr
        have HWR := Lib.hid hwr
        clear hwr hi2
        go_wp2_with (go_at_call 111; refine (portions_any A c L _ hl0).mono ?_; rintro e1 w1 ⟨rfl, rfl⟩)
        have hdec : decide ((i : Int) < ((L : Int) + 15) / 16) = true := by rw [decide_eq_true_eq]; omega
        rw [hdec]
        clear hdec
        refine' (fun (HIN : ∀ (g : Nat) (w4 : World), (Blk w4 g 23 (cellsB x).toArray ∧ Below wr.heap.size wr w4 ∧ wr.heap.size ≤ g) → (_ : Nat → World → Prop) g w4) => _) _
        rotate_left
        · refine wp_region_noPanic ?_
          have bb0 : Below wr.heap.size wr wr.drew := (Below.refl _ _).drew
          have hB0 : w.heap.size < wr.heap.size := HB.out.lt
          refine wp_region_held_drew (S := fun w' => w'.rangeAt w.heap.size 0 (cellsB k)) (by kernel_rfl) HB.out.drew.range (fun hS0 => ?_)
          refine hd_load 3 w.heap.size 0 (cellsB k) _ _ rfl rfl rfl (by kernel_rfl) (by kernel_rfl) (by kernel_rfl) (fun _ _ _ h => h) rfl (fun w hw => hw) under_key rfl (key_info HK.out) hS0 ?_
          refine hd_take 0 (.slice A L c) rfl rfl (by kernel_rfl) (by kernel_rfl) (by kernel_rfl) (fun _ _ _ h => h) (fun w _ => by go_simp) hS0 ?_
          refine hd_take 1 (.int .i64 (i : Int)) rfl rfl (by kernel_rfl) (by kernel_rfl) (by kernel_rfl) (fun _ _ _ h => h) (fun w _ => by go_simp) hS0 ?_
          refine hd_take 4 (.int .i64 (i : Int)) rfl rfl (by kernel_rfl) (by kernel_rfl) (by kernel_rfl) (fun _ _ _ h => h) (fun w _ => by go_simp) hS0 ?_
          refine hd_take 5 (.int .u64 (v.toNat : Int)) rfl rfl (by kernel_rfl) (by kernel_rfl) (by kernel_rfl) (fun _ _ _ h => h) (fun w _ => by rw [← HWR.out]; go_simp) hS0 ?_
          refine hd_take 6 (.int .u64 (n.toNat : Int)) rfl rfl (by kernel_rfl) (by kernel_rfl) (by kernel_rfl) (fun _ _ _ h => h) (fun w _ => by go_simp) hS0 ?_
          simp only [List.getElem_toArray, List.getElem_cons_succ, List.getElem_cons_zero, Act.put, List.setIfInBounds_toArray, List.set_cons_zero, List.set_cons_succ]
          refine hd_two 2 10 (by kernel_rfl) ?_ ?_
          · refine op_call 113 #[.slice A L c, .int .i64 (i : Int)] rfl rfl (by go_simp) ((HPO.out _ bb0).mono ?_)
            rintro e1 w101 ⟨rfl, hb1⟩
            have hS1 := range_below hS0 hb1
            have bb1 := bel_on bb0 hb1
            refine ⟨_, rfl, hS1, ?_⟩
            refine hd_two 7 10 (by kernel_rfl) ?_ ?_
            · refine op_call 114 #[.int .u8 1, .int .u64 (v.toNat : Int), .int .u64 (n.toNat : Int)] rfl rfl (by go_simp) ((HBL.out _ bb1).mono ?_)
              rintro e2 w102 ⟨rfl, hb2⟩
              have hS2 := range_below hS1 hb2
              have bb2 := bel_on bb1 hb2
              refine ⟨_, rfl, hS2, ?_⟩
              refine hd_two 8 10 (by kernel_rfl) ?_ ?_
              · refine op_call 56 #[.agg (cellsB k).toArray, .agg (cellsB t).toArray] rfl rfl (by go_simp) ((HEN.out _ bb2).mono ?_)
                rintro e3 w103 ⟨rfl, hb3⟩
                have hS3 := range_below hS2 hb3
                have bb3 := bel_on bb2 hb3
                refine ⟨_, rfl, hS3, ?_⟩
                refine hd_two 9 10 (by kernel_rfl) ?_ ?_
                · refine op_call 112 #[.agg (cellsB p).toArray, .agg (cellsB e).toArray] rfl rfl (by go_simp) ((HXO.out _ bb3).mono ?_)
                  rintro e4 w104 ⟨rfl, hb4⟩
                  have hS4 := range_below hS3 hb4
                  have bb4 := bel_on bb3 hb4
                  refine ⟨_, rfl, hS4, ?_⟩
                  refine hd_sole 10 (by kernel_rfl) ?_
                  obtain ⟨g, hg⟩ : ∃ g, (World.heap w104).size = g := ⟨_, rfl⟩
                  have bk5 : Blk (World.alloc w104 (.cells (cellsB zeroK).toArray 23)) g 23 (cellsB zeroK).toArray := by rw [← hg]; exact Blk.new _ _ _
                  have gg5 : wr.heap.size ≤ g := by have := Below.size bb4; omega
                  have hS5 := World.rangeAt_alloc hS4 (.cells (cellsB zeroK).toArray 23)
                  have bb5 := Below.alloc bb4 (Below.size bb4) (.cells (cellsB zeroK).toArray 23)
                  refine op_run (.pointer (some ⟨g, 0, none⟩)) (World.alloc w104 (.cells (cellsB zeroK).toArray 23)) rfl rfl (by rw [← hg, ← HZ.out]; go_simp) ⟨hS5, ?_⟩
                  simp only [List.getElem_toArray, List.getElem_cons_succ, List.getElem_cons_zero, Act.put, List.setIfInBounds_toArray, List.set_cons_zero, List.set_cons_succ]
                  have hPP6 := And.intro (bk5.setRow (cellsB x).toArray) (And.intro (below_setRow bb5 gg5 (cellsB x).toArray) gg5)
                  refine hd_store 11 g (cellsB x).toArray _ _ _ rfl rfl rfl (by kernel_rfl) rfl rfl bk5 (cellsB_size _ HXL.out) (by rw [List.size_toArray, List.size_toArray, cellsB_length, cellsB_length, HXL.out]; rfl) (all_oneCell_toArray (cells_one x)) (range_setRow hS5 (by omega) _) ?_
                  refine wpAnyH_done (by kernel_rfl) (NoPanic.normal ?_) _
                  simp only [List.getElem_toArray, List.getElem_cons_succ, List.getElem_cons_zero, Act.put, List.setIfInBounds_toArray, List.set_cons_zero, List.set_cons_succ]
                  generalize World.setRow (World.alloc w104 (.cells (cellsB zeroK).toArray 23)) g (cellsB x).toArray = w4 at hPP6 ⊢
                  exact HIN g w4 hPP6
                · obtain ⟨g, hg⟩ : ∃ g, (World.heap w103).size = g := ⟨_, rfl⟩
                  have bk7 : Blk (World.alloc w103 (.cells (cellsB zeroK).toArray 23)) g 23 (cellsB zeroK).toArray := by rw [← hg]; exact Blk.new _ _ _
                  have gg7 : wr.heap.size ≤ g := by have := Below.size bb3; omega
                  have hS7 := World.rangeAt_alloc hS3 (.cells (cellsB zeroK).toArray 23)
                  have bb7 := Below.alloc bb3 (Below.size bb3) (.cells (cellsB zeroK).toArray 23)
                  refine op_run (.pointer (some ⟨g, 0, none⟩)) (World.alloc w103 (.cells (cellsB zeroK).toArray 23)) rfl rfl (by rw [← hg, ← HZ.out]; go_simp) ⟨hS7, ?_⟩
                  refine hd_calls 9 112 #[.agg (cellsB p).toArray, .agg (cellsB e).toArray] rfl rfl (by kernel_rfl) (by go_simp) ((HXO.out _ bb7).mono ?_)
                  rintro e8 w108 ⟨rfl, hb8⟩
                  have hS8 := range_below hS7 hb8
                  have bb8 := bel_on bb7 hb8
                  have bk8 := Blk.below' bk7 hb8
                  refine ⟨_, rfl, hS8, ?_⟩
                  simp only [List.getElem_toArray, List.getElem_cons_succ, List.getElem_cons_zero, Act.put, List.setIfInBounds_toArray, List.set_cons_zero, List.set_cons_succ]
                  have hPP9 := And.intro (bk8.setRow (cellsB x).toArray) (And.intro (below_setRow bb8 gg7 (cellsB x).toArray) gg7)
                  refine hd_store 11 g (cellsB x).toArray _ _ _ rfl rfl rfl (by kernel_rfl) rfl rfl bk8 (cellsB_size _ HXL.out) (by rw [List.size_toArray, List.size_toArray, cellsB_length, cellsB_length, HXL.out]; rfl) (all_oneCell_toArray (cells_one x)) (range_setRow hS8 (by omega) _) ?_
                  refine wpAnyH_done (by kernel_rfl) (NoPanic.normal ?_) _
                  simp only [List.getElem_toArray, List.getElem_cons_succ, List.getElem_cons_zero, Act.put, List.setIfInBounds_toArray, List.set_cons_zero, List.set_cons_succ]
                  generalize w108.setRow g (cellsB x).toArray = w4 at hPP9 ⊢
                  exact HIN g w4 hPP9
              · obtain ⟨g, hg⟩ : ∃ g, (World.heap w102).size = g := ⟨_, rfl⟩
                have bk10 : Blk (World.alloc w102 (.cells (cellsB zeroK).toArray 23)) g 23 (cellsB zeroK).toArray := by rw [← hg]; exact Blk.new _ _ _
                have gg10 : wr.heap.size ≤ g := by have := Below.size bb2; omega
                have hS10 := World.rangeAt_alloc hS2 (.cells (cellsB zeroK).toArray 23)
                have bb10 := Below.alloc bb2 (Below.size bb2) (.cells (cellsB zeroK).toArray 23)
                refine op_run (.pointer (some ⟨g, 0, none⟩)) (World.alloc w102 (.cells (cellsB zeroK).toArray 23)) rfl rfl (by rw [← hg, ← HZ.out]; go_simp) ⟨hS10, ?_⟩
                refine hd_calls 8 56 #[.agg (cellsB k).toArray, .agg (cellsB t).toArray] rfl rfl (by kernel_rfl) (by go_simp) ((HEN.out _ bb10).mono ?_)
                rintro e11 w111 ⟨rfl, hb11⟩
                have hS11 := range_below hS10 hb11
                have bb11 := bel_on bb10 hb11
                have bk11 := Blk.below' bk10 hb11
                refine ⟨_, rfl, hS11, ?_⟩
                refine hd_calls 9 112 #[.agg (cellsB p).toArray, .agg (cellsB e).toArray] rfl rfl (by kernel_rfl) (by go_simp) ((HXO.out _ bb11).mono ?_)
                rintro e12 w112 ⟨rfl, hb12⟩
                have hS12 := range_below hS11 hb12
                have bb12 := bel_on bb11 hb12
                have bk12 := Blk.below' bk11 hb12
                refine ⟨_, rfl, hS12, ?_⟩
                simp only [List.getElem_toArray, List.getElem_cons_succ, List.getElem_cons_zero, Act.put, List.setIfInBounds_toArray, List.set_cons_zero, List.set_cons_succ]
                have hPP13 := And.intro (bk12.setRow (cellsB x).toArray) (And.intro (below_setRow bb12 gg10 (cellsB x).toArray) gg10)
                refine hd_store 11 g (cellsB x).toArray _ _ _ rfl rfl rfl (by kernel_rfl) rfl rfl bk12 (cellsB_size _ HXL.out) (by rw [List.size_toArray, List.size_toArray, cellsB_length, cellsB_length, HXL.out]; rfl) (all_oneCell_toArray (cells_one x)) (range_setRow hS12 (by omega) _) ?_
                refine wpAnyH_done (by kernel_rfl) (NoPanic.normal ?_) _
                simp only [List.getElem_toArray, List.getElem_cons_succ, List.getElem_cons_zero, Act.put, List.setIfInBounds_toArray, List.set_cons_zero, List.set_cons_succ]
                generalize w112.setRow g (cellsB x).toArray = w4 at hPP13 ⊢
                exact HIN g w4 hPP13
            · obtain ⟨g, hg⟩ : ∃ g, (World.heap w101).size = g := ⟨_, rfl⟩
              have bk14 : Blk (World.alloc w101 (.cells (cellsB zeroK).toArray 23)) g 23 (cellsB zeroK).toArray := by rw [← hg]; exact Blk.new _ _ _
              have gg14 : wr.heap.size ≤ g := by have := Below.size bb1; omega
              have hS14 := World.rangeAt_alloc hS1 (.cells (cellsB zeroK).toArray 23)
              have bb14 := Below.alloc bb1 (Below.size bb1) (.cells (cellsB zeroK).toArray 23)
              refine op_run (.pointer (some ⟨g, 0, none⟩)) (World.alloc w101 (.cells (cellsB zeroK).toArray 23)) rfl rfl (by rw [← hg, ← HZ.out]; go_simp) ⟨hS14, ?_⟩
              refine hd_calls 7 114 #[.int .u8 1, .int .u64 (v.toNat : Int), .int .u64 (n.toNat : Int)] rfl rfl (by kernel_rfl) (by go_simp) ((HBL.out _ bb14).mono ?_)
              rintro e15 w115 ⟨rfl, hb15⟩
              have hS15 := range_below hS14 hb15
              have bb15 := bel_on bb14 hb15
              have bk15 := Blk.below' bk14 hb15
              refine ⟨_, rfl, hS15, ?_⟩
              refine hd_calls 8 56 #[.agg (cellsB k).toArray, .agg (cellsB t).toArray] rfl rfl (by kernel_rfl) (by go_simp) ((HEN.out _ bb15).mono ?_)
              rintro e16 w116 ⟨rfl, hb16⟩
              have hS16 := range_below hS15 hb16
              have bb16 := bel_on bb15 hb16
              have bk16 := Blk.below' bk15 hb16
              refine ⟨_, rfl, hS16, ?_⟩
              refine hd_calls 9 112 #[.agg (cellsB p).toArray, .agg (cellsB e).toArray] rfl rfl (by kernel_rfl) (by go_simp) ((HXO.out _ bb16).mono ?_)
              rintro e17 w117 ⟨rfl, hb17⟩
              have hS17 := range_below hS16 hb17
              have bb17 := bel_on bb16 hb17
              have bk17 := Blk.below' bk16 hb17
              refine ⟨_, rfl, hS17, ?_⟩
              simp only [List.getElem_toArray, List.getElem_cons_succ, List.getElem_cons_zero, Act.put, List.setIfInBounds_toArray, List.set_cons_zero, List.set_cons_succ]
              have hPP18 := And.intro (bk17.setRow (cellsB x).toArray) (And.intro (below_setRow bb17 gg14 (cellsB x).toArray) gg14)
              refine hd_store 11 g (cellsB x).toArray _ _ _ rfl rfl rfl (by kernel_rfl) rfl rfl bk17 (cellsB_size _ HXL.out) (by rw [List.size_toArray, List.size_toArray, cellsB_length, cellsB_length, HXL.out]; rfl) (all_oneCell_toArray (cells_one x)) (range_setRow hS17 (by omega) _) ?_
              refine wpAnyH_done (by kernel_rfl) (NoPanic.normal ?_) _
              simp only [List.getElem_toArray, List.getElem_cons_succ, List.getElem_cons_zero, Act.put, List.setIfInBounds_toArray, List.set_cons_zero, List.set_cons_succ]
              generalize w117.setRow g (cellsB x).toArray = w4 at hPP18 ⊢
              exact HIN g w4 hPP18
          · obtain ⟨g, hg⟩ : ∃ g, (World.heap wr.drew).size = g := ⟨_, rfl⟩
            have bk19 : Blk (World.alloc wr.drew (.cells (cellsB zeroK).toArray 23)) g 23 (cellsB zeroK).toArray := by rw [← hg]; exact Blk.new _ _ _
            have gg19 : wr.heap.size ≤ g := by have := Below.size bb0; omega
            have hS19 := World.rangeAt_alloc hS0 (.cells (cellsB zeroK).toArray 23)
            have bb19 := Below.alloc bb0 (Below.size bb0) (.cells (cellsB zeroK).toArray 23)
            refine op_run (.pointer (some ⟨g, 0, none⟩)) (World.alloc wr.drew (.cells (cellsB zeroK).toArray 23)) rfl rfl (by rw [← hg, ← HZ.out]; go_simp) ⟨hS19, ?_⟩
            refine hd_calls 2 113 #[.slice A L c, .int .i64 (i : Int)] rfl rfl (by kernel_rfl) (by go_simp) ((HPO.out _ bb19).mono ?_)
            rintro e20 w120 ⟨rfl, hb20⟩
            have hS20 := range_below hS19 hb20
            have bb20 := bel_on bb19 hb20
            have bk20 := Blk.below' bk19 hb20
            refine ⟨_, rfl, hS20, ?_⟩
            refine hd_calls 7 114 #[.int .u8 1, .int .u64 (v.toNat : Int), .int .u64 (n.toNat : Int)] rfl rfl (by kernel_rfl) (by go_simp) ((HBL.out _ bb20).mono ?_)
            rintro e21 w121 ⟨rfl, hb21⟩
            have hS21 := range_below hS20 hb21
            have bb21 := bel_on bb20 hb21
            have bk21 := Blk.below' bk20 hb21
            refine ⟨_, rfl, hS21, ?_⟩
            refine hd_calls 8 56 #[.agg (cellsB k).toArray, .agg (cellsB t).toArray] rfl rfl (by kernel_rfl) (by go_simp) ((HEN.out _ bb21).mono ?_)
            rintro e22 w122 ⟨rfl, hb22⟩
            have hS22 := range_below hS21 hb22
            have bb22 := bel_on bb21 hb22
            have bk22 := Blk.below' bk21 hb22
            refine ⟨_, rfl, hS22, ?_⟩
            refine hd_calls 9 112 #[.agg (cellsB p).toArray, .agg (cellsB e).toArray] rfl rfl (by kernel_rfl) (by go_simp) ((HXO.out _ bb22).mono ?_)
            rintro e23 w123 ⟨rfl, hb23⟩
            have hS23 := range_below hS22 hb23
            have bb23 := bel_on bb22 hb23
            have bk23 := Blk.below' bk22 hb23
            refine ⟨_, rfl, hS23, ?_⟩
            simp only [List.getElem_toArray, List.getElem_cons_succ, List.getElem_cons_zero, Act.put, List.setIfInBounds_toArray, List.set_cons_zero, List.set_cons_succ]
            have hPP24 := And.intro (bk23.setRow (cellsB x).toArray) (And.intro (below_setRow bb23 gg19 (cellsB x).toArray) gg19)
            refine hd_store 11 g (cellsB x).toArray _ _ _ rfl rfl rfl (by kernel_rfl) rfl rfl bk23 (cellsB_size _ HXL.out) (by rw [List.size_toArray, List.size_toArray, cellsB_length, cellsB_length, HXL.out]; rfl) (all_oneCell_toArray (cells_one x)) (range_setRow hS23 (by omega) _) ?_
            refine wpAnyH_done (by kernel_rfl) (NoPanic.normal ?_) _
            simp only [List.getElem_toArray, List.getElem_cons_succ, List.getElem_cons_zero, Act.put, List.setIfInBounds_toArray, List.set_cons_zero, List.set_cons_succ]
            generalize w123.setRow g (cellsB x).toArray = w4 at hPP24 ⊢
            exact HIN g w4 hPP24
        · intro g w4 hPP
          obtain ⟨hB4, hbel4, hg⟩ := hPP
          have b4 := hbel.trans (hbel4.mono hbel.size)
          have HB4 := Lib.hid hB4
          have HK4 := Lib.hid (HB.out.below hbel4 HB.out.lt)
          have HO4 := Lib.hid (HO.out.below hbel4)
          have hgw : w.heap.size < g := Nat.lt_of_lt_of_le HB.out.lt hg
          clear hB4 HPO HBL HEN HXO
          go_wp2_with fail
          go_loopw [8, 11] (fun vo vj wr2 => ∃ (j : Nat) (A2 : Option Addr) (c2 : Nat), j ≤ 16 ∧ 16 * i + j ≤ L ∧ vj = .int .i64 (j : Int) ∧ vo = .slice A2 (16 * i + j) c2 ∧ Hid (OB w.heap.size wr2 A2 c2 ((streamS k n b).take (16 * i + j))) ∧ Hid (Blk wr2 g 23 (cellsB x).toArray) ∧ Hid (Blk wr2 w.heap.size 23 (cellsB k).toArray) ∧ Below w.heap.size w wr2) (fun _ vj _ => 16 - (intOf vj).toNat)
          case atStart => exact ⟨0, A', c', by omega, by omega, rfl, rfl, HO4.out, HB4.out, HK4.out, b4⟩
          case round =>
            obtain ⟨j, A2, c2, hj, hjL, rfl, rfl, HO2, HB2, HK2, hbel2⟩ := hrel
            by_cases hj16 : j < 16
            · have hji : (j : Int) < 16 := by omega
              by_cases hin : 16 * i + j < L
              · have hini : 16 * (i : Int) + (j : Int) < (L : Int) := by omega
                have c0 := HB2.out.cell j
                rw [bytes_get _ j (by rw [HXL.out]; exact hj16)] at c0
                have HST := Lib.hid (stream_take (k := k) (n := n) (b := b) (m := 16 * i + j) (by have := HL.out; omega))
                have HXJ : Hid (x.getD j 0 = stB1 k n b (16 * i + j)) := HXA.out j hj16 (by have := HL.out; omega)
                obtain ⟨y, hy⟩ : ∃ y, x.getD j 0 = y := ⟨_, rfl⟩
                rw [hy] at c0 HXJ
                have HTL : Hid (((streamS k n b).take (16 * i + j)).length = 16 * i + j) := by unfold Hid; rw [List.length_take, streamS_length]; have := HL.out; omega
                clear hy
                go_wp2_with (at_builtin; refine wpList_append_bytes _ rfl (.tmp 44) (.tmp 48) rfl w.heap.size A2 (16 * i + j) c2 _ HTL.out rfl (HO2.out.below (alloc_bel _ _)) (some ⟨_, 0, none⟩) 1 1 [y] rfl rfl (src_lit [y] rfl) (by omega) (by have := hbel2.size; simp; omega) ?_; intro A5 c5 w5 hon5 hbl5 hg5; have HB5 := Lib.hid (blk_grown (HB2.out.alloc _) (HO2.out.below (alloc_bel _ _)) HTL.out (by decide) hg5); have HK5 := Lib.hid (blk_grown (HK2.out.alloc _) (HO2.out.below (alloc_bel _ _)) HTL.out (by decide) hg5); have HON5 := Lib.hid hon5; have b5 := (hbel2.alloc hbel2.size _).trans hbl5; clear hon5 hg5 hbl5)
                go_roundw
                case rel => exact ⟨j + 1, A5, c5, by omega, by omega, by go_num, rfl, by unfold Hid; rw [show 16 * i + (j + 1) = 16 * i + j + 1 from rfl, HST.out, ← HXJ.out]; exact HON5.out, HB5, HK5, b5⟩
                case measure => simp [intOf]; omega
              · have hini : (L : Int) ≤ 16 * (i : Int) + (j : Int) := by omega
                go_wp2_with fail
                go_roundw
                case rel => exact ⟨i + 1, 16 * i + j, A2, c2, by omega, by omega, by go_num, rfl, HO2, HK2, hbel2⟩
                case measure => simp [intOf]; omega
            · have hji : (16 : Int) ≤ (j : Int) := by omega
              go_wp2_with fail
              go_roundw
              case rel => exact ⟨i + 1, 16 * i + j, A2, c2, by omega, by omega, by go_num, rfl, HO2, HK2, hbel2⟩
              case measure => simp [intOf]; omega
      · have hq2 : q = L := by omega
        subst hq2
        have hii : (((q + 15) / 16 : Nat) : Int) ≤ (i : Int) := by omega
        have HOS : Hid (OB w.heap.size wr A' c' (streamS k n b)) := by have h := HO.out; rw [stream_all (by have := HL.out; omega)] at h; exact h
        have HSL : Hid ((streamS k n b).length = q) := by unfold Hid; rw [streamS_length, HL.out]
        go_wp2_with (go_at_call 111; refine (portions_any A c q _ hl0).mono ?_; rintro e1 w1 ⟨rfl, rfl⟩)
        go_ret2
        exact ⟨⟨A', c', by rw [HS.out]; show _ = Ending.returned (.tuple #[.slice A' (streamS k n b).length c', .int .i64 0]); rw [HSL.out]; rfl, by rw [HS.out]; exact HOS.out⟩, hbel⟩
end Go.Proofs.Ytinpiodfpnbllaa
