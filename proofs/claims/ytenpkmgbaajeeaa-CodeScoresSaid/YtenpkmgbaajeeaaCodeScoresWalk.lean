/-
  The law CodeScores: the walk.
-/
import Derived.Test.YtenpkmgbaajeeaaScoreTop
import Derived.Test.YtenpkmgbaajeeaaRowsOwn
import Derived.Test.YtenpkmgbaajeeaaQuietRow
namespace Go.Proofs.Ytenpkmgbaajeeaa
open Go.RowKit Go.Shelf
set_option linter.unusedVariables false

theorem swS_len {u b x : Int} {l : List Int} {k : List UInt8} : (swS u b l k x).1.length ≤ l.length := by
  unfold swS
  split
  · split
    · simp [scoreWordS_length]
    · simp
  · simp

set_option maxHeartbeats 2000000 in
set_option maxRecDepth 100000 in
theorem codeScores_walk (u b : Int) (A : Option Addr) (c : Nat) (l : List Int) (k : List UInt8) (x : Int) (V : Option Addr) (e : Nat) (v : List UInt8) (Y : Option Addr) (d : Nat) (y : List UInt8) (w : World) (h : IR w A c l) (hk : k.length = 16) (hx1 : -9223372036854775808 ≤ x) (hx2 : x ≤ 9223372036854775807) (hvr : BR w V e v) (hy : BR w Y d y) :
    Calls Try.prog 4 #[.agg (scC u b A l.length c k).toArray, .int .i64 x, .slice V v.length e, .slice Y y.length d] w fun e w' => e = .returned (.bool true) ∧ Below w.heap.size w w' := by
  obtain ⟨n, hn⟩ : ∃ n, l.length = n := ⟨_, rfl⟩
  obtain ⟨nv, hnv⟩ : ∃ n, v.length = n := ⟨_, rfl⟩
  obtain ⟨ny, hny⟩ : ∃ n, y.length = n := ⟨_, rfl⟩
  have hlen := h.len
  rw [hn] at hlen
  have hsl : Hid ((swS u b l k x).1.length ≤ 140737488351232) := by have := @swS_len u b x l k; unfold Hid; omega
  have HN := Lib.hid hn
  have HNV := Lib.hid hnv
  have HNY := Lib.hid hny
  have H := Lib.hid h
  have HV := Lib.hid hvr
  have HY := Lib.hid hy
  have HK := Lib.hid hk
  have b0 := alloc_bel w (.cells (scC u b A n c k).toArray 34)
  rw [hn, hnv, hny]
  clear hn hnv hny h hk hvr hy hlen
  go_enter Try.func4, Try.ntmps4
  go_wp2_with (first
    | (refine wpList_load_row rfl 34 (.tmp 4) rfl w.heap.size rfl 34 (scC u b A n c k).toArray (0, 0) _ (Blk.new w _ _) Try.underlying34 rfl (scC_info u b A n c k HK.out) ?_)
    | (go_at_call 8; refine (ScoreWord_any u b A c l k x _ HN.out (H.out.below b0) HK.out).mono ?_; rintro er w1 ⟨⟨A1, c1, rfl, ho1⟩, hb1⟩; have hB1 := (Blk.new w 34 (scC u b A n c k).toArray).below' hb1; have HO1 := Lib.hid (ho1.br hsl.out); have HB1 := Lib.hid hB1; clear hB1 ho1; have b1 := b0.trans (hb1.mono b0.size))
    | (refine wpList_load_row rfl 34 (.tmp 4) rfl w.heap.size rfl 34 (scC u b A n c k).toArray (0, 0) _ HB1.out Try.underlying34 rfl (scC_info u b A n c k HK.out) ?_)
    | (go_at_call 9; refine (refScoreWord_any u b A c l k x _ HN.out (H.out.below b1) HK.out).mono ?_; rintro er w2 ⟨⟨A2, c2, rfl, ho2⟩, hb2⟩; have HO2 := Lib.hid (ho2.br hsl.out); have HB2 := Lib.hid (HB1.out.below' hb2); have HO1' := Lib.hid (HO1.out.below hb2); clear ho2; have b2 := b1.trans (hb2.mono b1.size)))
  generalize (swS u b l k x).2 = er at *
  generalize (swS u b l k x).1 = r at *
  have hs1 : ∀ z : Wd w2, (convert 23 9 (.slice A1 r.length c1)).run Try.prog z.w = .ok (.string (strB r)) z.w := fun z => run_string_br (HO1'.out.below z.h) _ rfl
  have hs2 : ∀ z : Wd w2, (convert 23 9 (.slice A2 r.length c2)).run Try.prog z.w = .ok (.string (strB r)) z.w := fun z => run_string_br (HO2.out.below z.h) _ rfl
  refine wp_region_wd (by kernel_rfl) (by kernel_rfl) ?_
  repeat (first | (go_big_quiet_want; refine quiet_load_as w.heap.size rfl 34 (scC u b A n c k).toArray (0, 0) _ (fun _ hw => by obtain ⟨z, rfl⟩ := hw; exact HB2.out.below' z.h) Try.underlying34 rfl (scC_info u b A n c k HK.out) ?_; go_big_quiet_op; go_big_quiet_on) | go_big_quiet_step (first
    | (go_at_call 10; exact Wd.call _ (CheckScores_any u b A c l k _ HN.out (H.out.below (b2.trans ((Wd.h _).mono b2.size)))))
    | (go_at_call 11; exact Wd.call _ (refCheckScores_any u b A c l k _ HN.out (H.out.below (b2.trans ((Wd.h _).mono b2.size))) HK.out))))
  refine wpQuiet_nil ?_
  intro _ hw'
  obtain ⟨xx, hw''⟩ := hw'
  subst hw''
  have b3 := b2.trans (xx.h.mono b2.size)
  have HB3 := Lib.hid (HB2.out.below' xx.h)
  clear hs1 hs2
  go_wp2_with (first
    | (refine wpList_load_row rfl 34 (.tmp 4) rfl w.heap.size rfl 34 (scC u b A n c k).toArray (0, 0) _ HB3.out Try.underlying34 rfl (scC_info u b A n c k HK.out) ?_)
    | (go_at_call 12; refine (Score_any u b A c l k V e v Y d y _ HN.out HNV.out HNY.out (H.out.below b3) (HV.out.below b3) (HY.out.below b3) HK.out).mono ?_; rintro er w4 ⟨rfl, hb4⟩; have b4 := b3.trans (hb4.mono b3.size); have HB4 := Lib.hid (HB3.out.below' hb4))
    | (refine wpList_load_row rfl 34 (.tmp 4) rfl w.heap.size rfl 34 (scC u b A n c k).toArray (0, 0) _ HB4.out Try.underlying34 rfl (scC_info u b A n c k HK.out) ?_)
    | (go_at_call 13; refine (refScore_any u b A c l k V e v Y d y _ HN.out HNV.out HNY.out (H.out.below b4) (HV.out.below b4) (HY.out.below b4) HK.out).mono ?_; rintro er w5 ⟨rfl, hb5⟩; have b5 := b4.trans (hb5.mono b4.size)))
  go_ret
  exact ⟨by simp, b5⟩
end Go.Proofs.Ytenpkmgbaajeeaa
