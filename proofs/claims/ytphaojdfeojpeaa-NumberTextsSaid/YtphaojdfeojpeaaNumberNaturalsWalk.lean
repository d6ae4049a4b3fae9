/-
  The walk of the law NumberNaturals.
-/
import Derived.Test.YtphaojdfeojpeaaNatSame
namespace Go.Proofs.Ytphaojdfeojpeaa
open Go.RowKit
set_option linter.unusedVariables false

/-- Two numbers and their twins in new memory, as they read in a world. -/
structure Four (w0 W : World) (A : Option Addr) (ca : Nat) (a : List Nat) (Bd : Option Addr) (cb : Nat) (b : List Nat) (X : Option Addr) (cx : Nat) (Y : Option Addr) (cy : Nat) : Prop where
  ra : NR W A ca a
  rb : NR W Bd cb b
  fx : NR W X cx a
  fy : NR W Y cy b
  bel : Below w0.heap.size w0 W
theorem Four.step {w0 W W' : World} {A : Option Addr} {ca : Nat} {a : List Nat} {Bd : Option Addr} {cb : Nat} {b : List Nat} {X : Option Addr} {cx : Nat} {Y : Option Addr} {cy : Nat} (h : Four w0 W A ca a Bd cb b X cx Y cy) (k : Below W.heap.size W W') : Four w0 W' A ca a Bd cb b X cx Y cy :=
  ⟨h.ra.below k, h.rb.below k, h.fx.below k, h.fy.below k, h.bel.trans (k.mono h.bel.size)⟩

set_option maxHeartbeats 4000000 in
set_option maxRecDepth 100000 in
theorem numberNaturals_walk (A : Option Addr) (ca : Nat) (a : List Nat) (Bd : Option Addr) (cb : Nat) (b : List Nat) (w : World) (ha : NR w A ca a) (hb : NR w Bd cb b) :
    Calls Try.prog 7 #[.slice A a.length ca, .slice Bd b.length cb] w fun e w' => e = .returned (.bool true) ∧ Below w.heap.size w w' := by
  have Ra := Lib.hid ha
  have Rb := Lib.hid hb
  clear ha hb
  go_enter Try.func7, Try.ntmps7
  go_wp2_with fail
  refine (twin_any A ca a _ rfl Ra.out).mono ?_
  rintro e w1 ⟨X, cx, rfl, hX, b1⟩
  go_wp2_with fail
  refine (twin_any Bd cb b _ rfl (Rb.out.below b1)).mono ?_
  rintro e w2 ⟨Y, cy, rfl, hY, b2⟩
  have H : Hid (Four w w2 A ca a Bd cb b X cx Y cy) := ⟨(Ra.out.below b1).below b2, (Rb.out.below b1).below b2, hX.1.below b2, hY.1, b1.trans (b2.mono b1.size)⟩
  clear hX hY b1 b2 Ra Rb
  go_wp2_with fail
  refine (Compare_any X cx a Y cy b _ rfl rfl H.out.fx H.out.fy).mono ?_
  rintro e w3 ⟨rfl, b3⟩
  have H := Lib.hid (H.out.step b3)
  go_wp2_with fail
  refine (refCompare_any A ca a Bd cb b _ rfl rfl H.out.ra H.out.rb).mono ?_
  rintro e w4 ⟨rfl, b4⟩
  have H := Lib.hid (H.out.step b4)
  generalize cmpS a b = r at *
  go_wp2_with fail
  refine (Check_any X cx a _ rfl H.out.fx).mono ?_
  rintro e w5 ⟨rfl, b5⟩
  have H := Lib.hid (H.out.step b5)
  go_wp2_with fail
  refine (refCheck_any A ca a _ rfl H.out.ra).mono ?_
  rintro e w6 ⟨rfl, b6⟩
  have H := Lib.hid (H.out.step b6)
  generalize chkS a = r2 at *
  clear b3 b4 b5 b6
  go_wp2_with fail
  refine (Add_any X cx a Y cy b _ rfl rfl H.out.fx H.out.fy).mono ?_
  rintro e w7 ⟨C, cc, rfl, hC, b7⟩
  have I := Lib.hid (H.out.step b7)
  go_wp2_with fail
  refine (refAdd_any A ca a Bd cb b _ rfl rfl I.out.ra I.out.rb).mono ?_
  rintro e w8 ⟨D, cd, rfl, hD, b8⟩
  generalize addS a b = r at *
  have hC2 := Lib.hid (hC.below b8)
  have hD2 := Lib.hid hD
  clear hC hD I
  have k1 : Below w6.heap.size w6 w8 := b7.trans (b8.mono b7.size)
  clear b7 b8
  go_wp2_with fail
  refine (Same_any C cc r.1 D cd r.1 _ rfl rfl hC2.out.1 hD2.out.1).mono ?_
  rintro e w9 ⟨rfl, b9⟩
  rw [sameB_self]
  have hC3 := Lib.hid (hC2.out.below b9)
  have k2 := k1.trans (b9.mono k1.size)
  go_wp2_with fail
  refine (spoil_any w6.heap.size C cc r.1 _ rfl hC3.out).mono ?_
  rintro e w10 ⟨⟨vv, rfl⟩, b10, ho⟩
  have k3 := k2.trans b10
  have H := Lib.hid (H.out.step k3)
  clear b9 b10 k1 k2 k3 hC2 hD2 hC3 ho
  go_wp2_with fail
  refine (Sub_any X cx a Y cy b _ rfl rfl H.out.fx H.out.fy).mono ?_
  rintro e w11 ⟨C, cc, rfl, hC, b11⟩
  have I := Lib.hid (H.out.step b11)
  go_wp2_with fail
  refine (refSub_any A ca a Bd cb b _ rfl rfl I.out.ra I.out.rb).mono ?_
  rintro e w12 ⟨D, cd, rfl, hD, b12⟩
  generalize subS a b = r at *
  have hC2 := Lib.hid (hC.below b12)
  have hD2 := Lib.hid hD
  clear hC hD I
  have k1 : Below w10.heap.size w10 w12 := b11.trans (b12.mono b11.size)
  clear b11 b12
  go_wp2_with fail
  refine (Same_any C cc r.1 D cd r.1 _ rfl rfl hC2.out.1 hD2.out.1).mono ?_
  rintro e w13 ⟨rfl, b13⟩
  rw [sameB_self]
  have hC3 := Lib.hid (hC2.out.below b13)
  have k2 := k1.trans (b13.mono k1.size)
  go_wp2_with fail
  refine (spoil_any w10.heap.size C cc r.1 _ rfl hC3.out).mono ?_
  rintro e w14 ⟨⟨vv, rfl⟩, b14, ho⟩
  have k3 := k2.trans b14
  have H := Lib.hid (H.out.step k3)
  clear b13 b14 k1 k2 k3 hC2 hD2 hC3 ho
  go_wp2_with fail
  refine (Mul_any X cx a Y cy b _ rfl rfl H.out.fx H.out.fy).mono ?_
  rintro e w15 ⟨C, cc, rfl, hC, b15⟩
  have I := Lib.hid (H.out.step b15)
  go_wp2_with fail
  refine (refMul_any A ca a Bd cb b _ rfl rfl I.out.ra I.out.rb).mono ?_
  rintro e w16 ⟨D, cd, rfl, hD, b16⟩
  generalize mulS a b = r at *
  have hC2 := Lib.hid (hC.below b16)
  have hD2 := Lib.hid hD
  clear hC hD I
  have k1 : Below w14.heap.size w14 w16 := b15.trans (b16.mono b15.size)
  clear b15 b16
  go_wp2_with fail
  refine (Same_any C cc r.1 D cd r.1 _ rfl rfl hC2.out.1 hD2.out.1).mono ?_
  rintro e w17 ⟨rfl, b17⟩
  rw [sameB_self]
  have hC3 := Lib.hid (hC2.out.below b17)
  have k2 := k1.trans (b17.mono k1.size)
  go_wp2_with fail
  refine (spoil_any w14.heap.size C cc r.1 _ rfl hC3.out).mono ?_
  rintro e w18 ⟨⟨vv, rfl⟩, b18, ho⟩
  have k3 := k2.trans b18
  have H := Lib.hid (H.out.step k3)
  clear b17 b18 k1 k2 k3 hC2 hD2 hC3 ho
  go_wp2_with fail
  refine (Div_any X cx a Y cy b _ rfl rfl H.out.fx H.out.fy).mono ?_
  rintro e w19 ⟨C, cc, R, cr, rfl, hC, hR, hap, b19⟩
  have I := Lib.hid (H.out.step b19)
  go_wp2_with fail
  refine (refDiv_any A ca a Bd cb b _ rfl rfl I.out.ra I.out.rb).mono ?_
  rintro e w20 ⟨D, cd, S, cs, rfl, hD, hS, hap2, b20⟩
  generalize divS a b = r at *
  have hC2 := Lib.hid (hC.below b20)
  have hD2 := Lib.hid hD
  have hR2 := Lib.hid (hR.below b20)
  have hS2 := Lib.hid hS
  have hAp := Lib.hid hap
  clear hR hS hap hap2
  clear hC hD I
  have k1 : Below w18.heap.size w18 w20 := b19.trans (b20.mono b19.size)
  clear b19 b20
  go_wp2_with fail
  refine (Same_any C cc r.1 D cd r.1 _ rfl rfl hC2.out.1 hD2.out.1).mono ?_
  rintro e w21 ⟨rfl, b21⟩
  rw [sameB_self]
  have hC3 := Lib.hid (hC2.out.below b21)
  have k2 := k1.trans (b21.mono k1.size)
  go_wp2_with fail
  refine (Same_any R cr r.2.1 S cs r.2.1 _ rfl rfl (hR2.out.1.below b21) (hS2.out.1.below b21)).mono ?_
  rintro e w23 ⟨rfl, b23⟩
  rw [sameB_self]
  have hC3 := Lib.hid (hC3.out.below b23)
  have hR3 := Lib.hid ((hR2.out.below b21).below b23)
  have k2 := k2.trans (b23.mono k2.size)
  clear b23
  go_wp2_with fail
  refine (spoil_any w18.heap.size C cc r.1 _ rfl hC3.out).mono ?_
  rintro e w22 ⟨⟨vv, rfl⟩, b22, ho⟩
  have k3 := k2.trans b22
  have hR4 := Lib.hid (hR3.out.onlyAt hAp.out ho hC3.out.some)
  clear ho
  go_wp2_with fail
  refine (spoil_any w18.heap.size R cr r.2.1 _ rfl hR4.out).mono ?_
  rintro e w24 ⟨⟨vv2, rfl⟩, b24, ho⟩
  have k3 := k3.trans b24
  clear b24 hR2 hS2 hAp hR3 hR4
  have H := Lib.hid (H.out.step k3)
  clear b21 b22 k1 k2 k3 hC2 hD2 hC3 ho
  go_wp2_with fail
  refine (Gcd_any X cx a Y cy b _ rfl rfl H.out.fx H.out.fy).mono ?_
  rintro e w25 ⟨C, cc, rfl, hC, b25⟩
  have I := Lib.hid (H.out.step b25)
  go_wp2_with fail
  refine (refGcd_any A ca a Bd cb b _ rfl rfl I.out.ra I.out.rb).mono ?_
  rintro e w26 ⟨D, cd, rfl, hD, b26⟩
  generalize gcdS a b = r at *
  have hC2 := Lib.hid (hC.below b26)
  have hD2 := Lib.hid hD
  clear hC hD I
  have k1 : Below w24.heap.size w24 w26 := b25.trans (b26.mono b25.size)
  clear b25 b26
  go_wp2_with fail
  refine (Same_any C cc r.1 D cd r.1 _ rfl rfl hC2.out.1 hD2.out.1).mono ?_
  rintro e w27 ⟨rfl, b27⟩
  rw [sameB_self]
  have hC3 := Lib.hid (hC2.out.below b27)
  have k2 := k1.trans (b27.mono k1.size)
  go_wp2_with fail
  refine (spoil_any w24.heap.size C cc r.1 _ rfl hC3.out).mono ?_
  rintro e w28 ⟨⟨vv, rfl⟩, b28, ho⟩
  have k3 := k2.trans b28
  have H := Lib.hid (H.out.step k3)
  clear b27 b28 k1 k2 k3 hC2 hD2 hC3 ho
  go_wp2_with fail
  refine (Same_any X cx a A ca a _ rfl rfl H.out.fx H.out.ra).mono ?_
  rintro e w29 ⟨rfl, b29⟩
  rw [sameB_self]
  have H := Lib.hid (H.out.step b29)
  go_wp2_with fail
  refine (Same_any Y cy b Bd cb b _ rfl rfl H.out.fy H.out.rb).mono ?_
  rintro e w30 ⟨rfl, b30⟩
  rw [sameB_self]
  have H := Lib.hid (H.out.step b30)
  go_wp2_with fail
  go_ret
  exact ⟨rfl, H.out.bel⟩
end Go.Proofs.Ytphaojdfeojpeaa