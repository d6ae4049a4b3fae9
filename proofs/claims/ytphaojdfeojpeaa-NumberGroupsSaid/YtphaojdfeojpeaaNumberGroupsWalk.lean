/-
  The walk of the law NumberGroups.
-/
import Derived.Test.YtphaojdfeojpeaaGroupWalks
import Derived.Test.YtphaojdfeojpeaaWd
namespace Go.Proofs.Ytphaojdfeojpeaa
open Go.RowKit
set_option linter.unusedVariables false

set_option maxHeartbeats 1000000 in
theorem numberGroups_walk (n p q g : Nat) (_hn : n < 18446744073709551616) (hp : p < 18446744073709551616) (hq : q < 18446744073709551616) (hg : g < 18446744073709551616) (w : World) :
    Calls Try.prog 4 #[.int .u64 n, .agg #[.int .u64 p, .int .u64 q, .int .u64 g]] w fun e w' => e = .returned (.bool true) ∧ Below w.heap.size w w' := by
  have Hp := Lib.hid hp
  have Hq := Lib.hid hq
  have Hg := Lib.hid hg
  clear hp hq hg
  have hl0 : ∀ x : Wd (w.alloc (Obj.cells #[Value.int IntKind.u64 ↑p, Value.int IntKind.u64 ↑q, Value.int IntKind.u64 ↑g] 32)), x.w.cell? ⟨w.heap.size, 0, none⟩ = some (.int .u64 p) := fun x => by rw [x.h.cell (by simp)]; simp
  have hl1 : ∀ x : Wd (w.alloc (Obj.cells #[Value.int IntKind.u64 ↑p, Value.int IntKind.u64 ↑q, Value.int IntKind.u64 ↑g] 32)), x.w.cell? ⟨w.heap.size, 1, none⟩ = some (.int .u64 q) := fun x => by rw [x.h.cell (by simp)]; simp
  have hl2 : ∀ x : Wd (w.alloc (Obj.cells #[Value.int IntKind.u64 ↑p, Value.int IntKind.u64 ↑q, Value.int IntKind.u64 ↑g] 32)), x.w.cell? ⟨w.heap.size, 2, none⟩ = some (.int .u64 g) := fun x => by rw [x.h.cell (by simp)]; simp
  by_cases h : n ≤ 1048575
  · have H := Lib.hid h
    clear h
    go_enter Try.func4, Try.ntmps4
    go_wp2_with (first | (go_at_call 23; refine (Prime_yes _ H.out _).mono ?_; rintro e w' ⟨rfl, rfl⟩) | (go_at_call 24; refine (refPrime_yes _ H.out _).mono ?_; rintro e w' ⟨rfl, rfl⟩))
    refine wp_region_wd (by kernel_rfl) (by kernel_rfl) ?_
    repeat (go_big_quiet_step (first | (go_at_call 25; exact Wd.call _ (CheckGroup_any _ _ _ Hp.out Hq.out Hg.out _)) | (go_at_call 26; exact Wd.call _ (refCheckGroup_any _ _ _ Hp.out Hq.out Hg.out _))))
    refine wpQuiet_nil ?_
    intro _ hw'
    obtain ⟨x, hw''⟩ := hw'
    subst hw''
    go_wp2_with fail
    go_ret
    exact ⟨ret_bool (by simp), ((Below.refl _ _).alloc (Nat.le_refl _) _).trans (x.h.mono (by simp))⟩
  · have H : Hid (1048575 < n) := by unfold Hid; omega
    clear h
    go_enter Try.func4, Try.ntmps4
    go_wp2_with (first | (go_at_call 23; refine (Prime_no _ H.out _).mono ?_; rintro e w' ⟨rfl, rfl⟩) | (go_at_call 24; refine (refPrime_no _ H.out _).mono ?_; rintro e w' ⟨rfl, rfl⟩))
    refine wp_region_wd (by kernel_rfl) (by kernel_rfl) ?_
    repeat (go_big_quiet_step (first | (go_at_call 25; exact Wd.call _ (CheckGroup_any _ _ _ Hp.out Hq.out Hg.out _)) | (go_at_call 26; exact Wd.call _ (refCheckGroup_any _ _ _ Hp.out Hq.out Hg.out _))))
    refine wpQuiet_nil ?_
    intro _ hw'
    obtain ⟨x, hw''⟩ := hw'
    subst hw''
    go_wp2_with fail
    go_ret
    exact ⟨ret_bool (by simp), ((Below.refl _ _).alloc (Nat.le_refl _) _).trans (x.h.mono (by simp))⟩
end Go.Proofs.Ytphaojdfeojpeaa
