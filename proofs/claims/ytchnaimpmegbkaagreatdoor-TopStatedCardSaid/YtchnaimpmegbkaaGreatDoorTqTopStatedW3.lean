/-
  Lemmas and contracts, joined.
-/
import Derived.Test.YtchnaimpmegbkaaGreatDoorTqTopStatedW2
import Derived.Test.YtchnaimpmegbkaaGreatDoorTqTw1
set_option linter.unusedSimpArgs false
set_option linter.unusedVariables false
set_option linter.unnecessarySimpa false
/- The law TopStated: the walk. -/
namespace Go.Proofs.YtchnaimpmegbkaaGreatDoor
open Go.RowKit
set_option linter.unusedVariables false
set_option linter.unusedSimpArgs false
attribute [local go_sem] equalIn_keys

set_option maxHeartbeats 16000000 in
set_option maxRecDepth 100000 in
theorem stated_good (s : StV) (A : Option Addr) (c : Nat) (rs : List BRow) (K : List UInt8) (O : List UInt8) (Hh : Option Addr) (ch : Nat) (half : List UInt8) (V : List UInt8) (Y : Option Addr) (d : Nat) (y : List UInt8) (need : Int) (w0 : World) {n k j : Nat} (hn : rs.length = n) (hk : half.length = k) (hny : y.length = k) (h0 : StOK w0 s) (hR0 : RR w0 A c rs) (hK : K.length = 16) (hO : O.length = 16) (hh0 : BR w0 Hh ch half) (hV : V.length = 16) (hy0 : BR w0 Y d y) (hT : TestsIn w0) (hok : s.ok = true) (hus : (n : Int) = s.u) (hall : ∀ h ∈ rs.map BRow.l, wordB h k = true) (hk1 : 1 ≤ k) (hk2 : k ≤ 64) (hz : sizedB s (rs.map BRow.l) = true) (g4 : wordB half k = true) (g5 : copyB y k = true) (g6 : 1 ≤ need) (g7 : need ≤ (k : Int)) (hj : j < n) :
    Calls Tryz.prog 3 #[.agg s.cs.toArray, .slice A n c, .agg (cellsB K).toArray, .int .i64 (j : Int), .agg (cellsB O).toArray, .slice Hh k ch, .agg (cellsB V).toArray, .slice Y k d, .int .i64 need] w0 fun e w' => e = .returned (.bool true) ∧ Below w0.heap.size w0 w' := by
  have hkk := h0.k16
  obtain ⟨w, hW0⟩ : ∃ W : World, W = (((w0.alloc (.cells s.cs.toArray 29)).alloc (.cells (cellsB K).toArray 23)).alloc (.cells (cellsB O).toArray 23)).alloc (.cells (cellsB V).toArray 23) := ⟨_, rfl⟩
  have b0 : Hid (Below w0.heap.size w0 w) := by unfold Hid; rw [hW0]; exact bel_on (alloc3_bel w0 _ _ _) (alloc_bel _ _)
  have HXT : Hid (∀ W, Below w.heap.size w W → Blk W w0.heap.size 29 s.cs.toArray) := fun W hW => Blk.below' (by rw [hW0]; exact (blk_a0 w0 _ _ _ _).alloc _) hW
  have HXK : Hid (∀ W, Below w.heap.size w W → Blk W (w0.heap.size + 1) 23 (cellsB K).toArray) := fun W hW => Blk.below' (by rw [hW0]; exact (blk_a1 w0 _ _ _ _).alloc _) hW
  have HXO : Hid (∀ W, Below w.heap.size w W → Blk W (w0.heap.size + 1 + 1) 23 (cellsB O).toArray) := fun W hW => Blk.below' (by rw [hW0]; exact (blk_a2 w0 _ _ _ _).alloc _) hW
  have HXV : Hid (∀ W, Below w.heap.size w W → Blk W (w0.heap.size + 1 + 1 + 1) 23 (cellsB V).toArray) := fun W hW => Blk.below' (by rw [hW0]; have := Blk.new (((w0.alloc (.cells s.cs.toArray 29)).alloc (.cells (cellsB K).toArray 23)).alloc (.cells (cellsB O).toArray 23)) 23 (cellsB V).toArray; simpa using this) hW
  have HW0 := Lib.hid hW0
  have HIN := Lib.hid (StV.info (s := s) hkk)
  have H20 : Hid (s.cs.length = 20) := StV.len hkk
  have HAL : Hid (∀ v ∈ s.cs, v.oneCell' = true) := by
    have := StV.all s
    rw [List.all_toArray, List.all_eq_true] at this
    exact this
  have K0 : Hid (Below w.heap.size w w) := Below.refl _ _
  have HT := Lib.hid (hT.below_ b0.out)
  have HA : Hid (∀ W, Below w.heap.size w W → Calls Tryz.prog 5 #[] W fun e w' => e = .returned (.bool true) ∧ Below W.heap.size W w') := fun W hW => alive09_any W (HT.out.below_ hW)
  have HSZ : Hid (∀ W, Below w.heap.size w W → Calls Tryz.prog 6 #[.agg s.cs.toArray, .slice A n c] W fun e w' => e = .returned (.bool (sizedB s (rs.map BRow.l))) ∧ Below W.heap.size W w') := fun W hW => sized_any s A c rs W hn ((h0.below b0.out).below hW) ((hR0.below b0.out).below hW)
  have HIW : Hid (∀ W, Below w.heap.size w W → Calls Tryz.prog 7 #[.slice Hh k ch, .int .i64 (k : Int)] W fun e w' => e = .returned (.bool (wordB half k)) ∧ W = w') := fun W hW => refIsWord_any Hh ch half k W hk ((hh0.below b0.out).below hW) (by have := hh0.len; omega)
  have HIC : Hid (∀ W, Below w.heap.size w W → Calls Tryz.prog 8 #[.slice Y k d, .int .i64 (k : Int)] W fun e w' => e = .returned (.bool (copyB y k)) ∧ W = w') := fun W hW => refIsCopy_any Y d y k W hny ((hy0.below b0.out).below hW) (by have := hh0.len; omega)
  have hkl : (k : Int) ≤ 140737488351232 := by have := hh0.len; omega
  have hnyl : (k : Int) ≤ 140737488351232 := by have := hy0.len; omega
  have hnl : (n : Int) ≤ 140737488351232 := by have := hR0.1.len; omega
  obtain ⟨⟨q1, q2, -, -⟩, -⟩ := StV.parts hok
  have hn16 : n ≤ 16 := by omega
  have hni : (n : Int) ≤ 16 := by omega
  have hji : (j : Int) < n := by omega
  have hj0 : (0 : Int) ≤ j := by omega
  have hjn : ¬ (n : Int) ≤ j := by omega
  have hjz : ¬ (j : Int) < 0 := by omega
  have hn1 : ¬ need < 1 := by omega
  have hn2 : ¬ (k : Int) < need := by omega
  have hki : (k : Int) ≤ 64 := by omega
  have hkk1 : ¬ ((k : Int) ≠ (k : Int)) := by simp
  have hR := hR0.below b0.out
  obtain ⟨bA, oA, r0, rfl, hbA, hr0, hc0, -⟩ := hR.at_ (i := 0) (by omega)
  rw [Nat.add_zero] at hc0
  obtain ⟨bA', oA', r, e, -, hr, hcr, hRr⟩ := hR.at_ (i := j) (by omega)
  injection e with e
  injection e with e1 e2
  subst e1 e2
  obtain ⟨hs, hhs⟩ : ∃ q, rs.map BRow.l = q := ⟨_, rfl⟩
  rw [hhs] at HSZ hz hall
  have hl0 : r0.l.length = k := wordB_len (hall _ (by rw [← hhs]; exact List.mem_map.2 ⟨r0, List.mem_of_getElem? hr0, rfl⟩))
  have hrl : hs.getD j [] = r.l := by rw [← hhs]; exact row_l hr
  have hlr : r.l.length = k := wordB_len (hall _ (by rw [← hhs]; exact List.mem_map.2 ⟨r, List.mem_of_getElem? hr, rfl⟩))
  have hhalf : ∀ r ∈ rs, halfB r.l 1 = true := fun r hr => by
    obtain ⟨h1, h2⟩ := wordB_sym (hall _ (by rw [← hhs]; exact List.mem_map.2 ⟨r, hr, rfl⟩))
    exact halfB_iff.2 ⟨⟨by omega, by omega⟩, symB_iff.2 fun i hi => h2 i (by omega)⟩
  have hcy : halfB y 2 = true := copy_half g5 hk1 hk2
  have hlen : hs.length = n := by rw [← hhs, List.length_map, hn]
  rw [hl0] at hc0
  have HCL : Hid (∀ W, Below w.heap.size w W → W.cell? ⟨w0.heap.size, 0, none⟩ = some (.int .i64 (n : Int)) ∧ W.cell? ⟨bA, oA, none⟩ = some (.slice r0.A k r0.c)) := fun W hW => by
    have := (StV.cells hkk (HXT.out W hW)).1
    rw [← hus] at this
    exact ⟨this, cell_up hW hc0⟩
  obtain ⟨L, hL⟩ : ∃ q, comsF K hs n = q := ⟨_, rfl⟩
  obtain ⟨rt, hrt⟩ : ∃ q, rootS L = q := ⟨_, rfl⟩
  obtain ⟨ns, hns⟩ : ∃ q, nonsF K n = q := ⟨_, rfl⟩
  have hLn : L.length = n := by rw [← hL]; exact comsF_len _ _ _
  have hnn : ns.length = n := by rw [← hns]; exact nonsF_len _ _
  have hL16 : Keys16 L := by rw [← hL]; exact comsF_16 K hs n
  have hn16' : Keys16 ns := by rw [← hns]; exact nonsF_16 K hK n
  obtain ⟨kc, hkc⟩ : ∃ q, L.getD j [] = q := ⟨_, rfl⟩
  obtain ⟨kn, hkn⟩ : ∃ q, ns.getD j [] = q := ⟨_, rfl⟩
  have hkc0 : kc = digS (openT (hs.getD j []) kn) := by rw [← hkc, ← hL, comsF_get K hs hj, ← hkn, ← hns, nonsF_get K hj]; rfl
  have HKC : Hid (kc.length = 16) := by rw [hkc0]; exact digS_length _
  have HKN : Hid (kn.length = 16) := by rw [← hkn, ← hns, nonsF_get K hj]; exact nonF_length K hK j
  have HRTL : Hid (rt.length = 16) := by rw [← hrt]; exact rootS_length _
  have HOL := Lib.hid hO
  have HVL := Lib.hid hV
  have HKL := Lib.hid hK
  obtain ⟨P, hP⟩ : ∃ q, pathS L j = q := ⟨_, rfl⟩
  obtain ⟨pm, hpm⟩ : ∃ q, P.length = q := ⟨_, rfl⟩
  obtain ⟨hv, hhv⟩ : ∃ q, hs.getD j [] = q := ⟨_, rfl⟩
  have hvr : r.l = hv := by rw [← hrl]; exact hhv
  rw [hhv] at hkc0
  obtain ⟨xv, hxv⟩ : ∃ q, q = ownV K hs n j y need := ⟨_, rfl⟩
  have hx1 : xv = regV L n j kc y need hv kn := by rw [hxv, ownV_reg hj, hL, ← hhv, hkc0, ← hkn, ← hns, nonsF_get K hj, hhv]
  have hx2 : xv.withCom O = regV L n j O y need hv kn := by rw [hx1]; rfl
  have hx3 : (xv.withHalf half).withNonce V = regV L n j kc y need half V := by rw [hx1]; rfl
  have hlie := reg_lie (com := O) (half := hv) (nonce := kn) hLn hj (by omega) hcy g6 (by rw [hny]; exact g7)
  have hoth := reg_other (com := kc) (half := half) (nonce := V) hLn hj (by omega) hkc hcy g6 (by rw [hny]; exact g7)
  rw [← hx2] at hlie
  rw [← hx3] at hoth
  obtain ⟨lv, hlv⟩ : ∃ q, q = xv.withCom O := ⟨_, rfl⟩
  obtain ⟨v2, hv2⟩ : ∃ q, q = (xv.withHalf half).withNonce V := ⟨_, rfl⟩
  rw [← hlv] at hlie
  rw [← hv2] at hoth
  obtain ⟨vd, hvd⟩ : ∃ q, (judgeS lv).1 = q := ⟨_, rfl⟩
  obtain ⟨ve, hve⟩ : ∃ q, (judgeS v2).1 = q := ⟨_, rfl⟩
  rw [hvd, hkc, hP] at hlie
  rw [hve] at hoth
  have hjl : judgeS lv = (vd, 0) := by rw [← hvd, ← hlie.1]
  have hj2 : judgeS v2 = (ve, 0) := by rw [← hve, ← hoth.1]
  have HLIE := Lib.hid hlie.2
  have HOTH := Lib.hid hoth.2
  have hfit : fitsB (n : Int) (j : Int) pm = true := by
    refine fitsB_iff.2 ⟨⟨by omega, by omega, by omega, by omega⟩, ?_⟩
    rw [← hpm, ← hP, Int.toNat_natCast, Int.toNat_natCast, pathS_steps n L j hLn]
  have hPk : Keys16 P := by rw [← hP]; exact pathS_k16_ n L j hLn
  have hx16 : xv.root.length = 16 ∧ xv.com.length = 16 ∧ xv.nonce.length = 16 := by rw [hx1]; exact ⟨rootS_length _, HKC.out, HKN.out⟩
  have HX16 := Lib.hid hx16
  have HL16 : Hid (lv.root.length = 16 ∧ lv.com.length = 16 ∧ lv.nonce.length = 16) := by rw [hlv]; exact ⟨hx16.1, hO, hx16.2.2⟩
  have H216 : Hid (v2.root.length = 16 ∧ v2.com.length = 16 ∧ v2.nonce.length = 16) := by rw [hv2]; exact ⟨hx16.1, hx16.2.1, hV⟩
  have HLV := Lib.hid hlv
  have HV2 := Lib.hid hv2
  have HKC0 := Lib.hid hkc0
  have HKNJ := Lib.hid hkn
  have HHN : Hid (half.length = k) := hk
  have HVN : Hid (hv.length = k) := by rw [← hvr]; exact hlr
  have hlL := textsS_le n L hLn (by omega)
  have hlP := climbS_le O n j P (by omega)
  have hpl : pm ≤ n := by rw [← hpm, ← hP]; exact pathS_kle_ n L j hLn
  have HRG : Hid (∀ W, Below w.heap.size w W → Calls Tryz.prog 9 #[.agg s.cs.toArray, .slice (some ⟨bA, oA, none⟩) n c, .agg (cellsB K).toArray] W fun e w' => (∃ N a C b, e = .returned (.tuple #[.agg (regC s.cs (some ⟨bA, oA, none⟩) n c N n a C n b rt).toArray, .bool true]) ∧ KR w' N a ns ∧ KR w' C b L) ∧ Below W.heap.size W w') := fun W hW => by
    have := registered_any s (some ⟨bA, oA, none⟩) c rs K W hn ((h0.below b0.out).below hW) (hR.below hW) hhalf hK (by omega) hn16
    rw [hhs, hL, hrt, hns] at this
    refine this.mono fun e w' hq => ?_
    obtain ⟨⟨N, a, C, b, h1, h2, h3⟩, h4⟩ := hq
    exact ⟨⟨N, a, C, b, h1, h2.kr hn16' (by omega), h3.kr hL16 (by omega)⟩, h4⟩
  have HAC : Hid (∀ W N a C b, Below w.heap.size w W → KR W N a ns → KR W C b L → Calls Tryz.prog 10 #[.agg (regC s.cs (some ⟨bA, oA, none⟩) n c N n a C n b rt).toArray, .int .i64 (j : Int), .slice Y k d, .int .i64 need] W fun e w' => (∃ A' c', e = .returned (.tuple #[.agg (caseC xv A' pm c' Y k d r.A k r.c).toArray, .bool true]) ∧ CaseOK w' xv A' pm c' Y k d r.A k r.c) ∧ Below W.heap.size W w') := fun W N a C b hW hN hC => by
    have := accused_own (cl := s.cs) (K := K) (hs := hs) (n := n) (u := j) (y := y) (need := need) (r := r) (N := N) (a := a) (C := C) (b := b) (Y := Y) (ny := k) (d := d) (m := pm) (W := W) (StV.len hkk) HAL.out hhs hn hj (by omega) hK (hR.below hW) (by rw [hns]; exact hN) (by rw [hL]; exact hC) hr hny ((hy0.below b0.out).below hW) (by rw [hL, hP]; exact hpm)
    rw [hL, hrt, ← hxv, hlr] at this
    exact this
  have HJL : Hid (∀ W A' c', Below w.heap.size w W → CaseOK W xv A' pm c' Y k d r.A k r.c → Calls Tryz.prog 11 #[.agg (caseC lv A' pm c' Y k d r.A k r.c).toArray] W fun e w' => e = .returned (.tuple #[.int .u8 vd, .int .i64 0]) ∧ Below W.heap.size W w') := fun W A' c' hW hC => by
    have := Judge_any lv A' pm c' Y k d r.A k r.c W ⟨HL16.out.1, HL16.out.2.1, HL16.out.2.2, by rw [hlv]; exact hC.hm, by rw [hlv]; exact hC.hn, by rw [hlv]; exact hC.hk, by rw [hlv]; exact hC.P, by rw [hlv]; exact hC.cp, by rw [hlv]; exact hC.half⟩ (HT.out.below_ hW)
    rw [hjl] at this
    exact this
  have HJ2 : Hid (∀ W A' c', Below w.heap.size w W → CaseOK W xv A' pm c' Y k d r.A k r.c → Calls Tryz.prog 11 #[.agg (caseC v2 A' pm c' Y k d Hh k ch).toArray] W fun e w' => e = .returned (.tuple #[.int .u8 ve, .int .i64 0]) ∧ Below W.heap.size W w') := fun W A' c' hW hC => by
    have := Judge_any v2 A' pm c' Y k d Hh k ch W ⟨H216.out.1, H216.out.2.1, H216.out.2.2, by rw [hv2]; exact hC.hm, by rw [hv2]; exact hC.hn, by rw [hv2]; exact hk, by rw [hv2]; exact hC.P, by rw [hv2]; exact hC.cp, by rw [hv2]; exact (hh0.below b0.out).below hW⟩ (HT.out.below_ hW)
    rw [hj2] at this
    exact this
  have HTX : Hid (∀ W C b, KR W C b L → Calls Tryz.prog 12 #[.slice C n b] W fun e w' => TxOwn W.heap.size (textsS L) e w' ∧ Below W.heap.size W w') := fun W C b hC => Texts_own L C b W hLn hC (by omega) (by omega)
  have HPT : Hid (∀ W A' c', KR W A' c' P → Calls Tryz.prog 13 #[.agg (cellsB O).toArray, .agg #[.int .i64 (n : Int), .int .i64 (j : Int), .slice A' pm c']] W fun e w' => TxOwn W.heap.size (climbS O n j P).2 e w' ∧ Below W.heap.size W w') := fun W A' c' hp => by
    have := PathTexts_own O (n : Int) (j : Int) P A' c' W hpm hO hp hfit
    rw [Int.toNat_natCast, Int.toNat_natCast] at this
    exact this
  have hxP : xv.P = P := by rw [hx1]; exact hP
  have HXC : Hid (∀ A' c' w', CaseOK w' xv A' pm c' Y k d r.A k r.c → KR w' A' c' P) := fun A' c' w' h => by rw [← hxP]; exact h.P
  have HXF : Hid (xv.root = rt ∧ xv.com = kc ∧ xv.a = (n : Int) ∧ xv.b = (j : Int)) := by rw [hx1]; exact ⟨hrt, rfl, rfl, rfl⟩
  have HRJ : Hid (∀ W, Below w.heap.size w W → W.cell? ⟨bA, oA + j, none⟩ = some (.slice r.A k r.c) ∧ BR W r.A r.c hv) := fun W hW => by
    rw [hlr] at hcr
    exact ⟨cell_up hW hcr, by rw [← hvr]; exact hRr.below hW⟩
  have HBH : Hid (∀ W, Below w.heap.size w W → BR W Hh ch half) := fun W hW => (hh0.below b0.out).below hW
  have HRIA : Hid (∀ N a C b, (Tryz.prog.info? 37).map (·.size) = some (regC s.cs (some ⟨bA, oA, none⟩) n c N n a C n b rt).toArray.size ∧ zReg.size = (regC s.cs (some ⟨bA, oA, none⟩) n c N n a C n b rt).toArray.size ∧ (regC s.cs (some ⟨bA, oA, none⟩) n c N n a C n b rt).toArray.all (·.oneCell') = true) := fun N a C b => ⟨reg_info H20.out HRTL.out, zReg_old H20.out HRTL.out, all_oneCell_toArray (regC_all HAL.out)⟩
  rw [hz] at HSZ
  rw [g4] at HIW
  rw [g5] at HIC
  have HLT : Hid ((textsS L).length ≤ 1000) := by unfold Hid; omega
  have HLP : Hid ((climbS O n j P).2.length ≤ 1000) := by unfold Hid; omega
  have HLN := Lib.hid hLn
  have HNN := Lib.hid hnn
  generalize textsS L = tL at *
  generalize (climbS O n j P).2 = tP at *
  obtain ⟨Xj, hXj⟩ : ∃ q, r.A = q := ⟨_, rfl⟩
  obtain ⟨xj, hxj⟩ : ∃ q, r.c = q := ⟨_, rfl⟩
  rw [hXj, hxj] at HAC HJL HJ2 HXC HRJ
  clear hW0 h0 hR0 hh0 hy0 hT hR hn hk hny hK hO hV hkk hXj hxj hc0 hr0 hr hcr hRr hhs hl0 hrl hlr hhalf hcy hlen hL hrt hns hLn hnn hL16 hn16' hkc hkn hkc0 hP hpm hhv hvr hxv hx1 hx2 hx3 hlie hoth hlv hv2 hvd hve hjl hj2 hfit hPk hx16 hlL hlP hxP hus hall hz g4 g5 q1 q2 hok hbA
  go_enter Tryz.func3, Tryz.ntmps3
  go_wp2_with (first | (rw [← HW0.out]))
  refine (HA.out _ K0.out).mono ?_
  rintro e w1 ⟨rfl, hb1⟩
  have K1 : Hid (Below w.heap.size w w1) := hb1
  clear hb1
  go_wp2_with (first | (refine wpList_load_row rfl 29 (.tmp 9) rfl w0.heap.size rfl 29 s.cs.toArray (0, 0) _ (HXT.out _ K1.out) Tryz.underlying29 rfl HIN.out ?_))
  refine (HSZ.out _ K1.out).mono ?_
  rintro e w2 ⟨rfl, hb2⟩
  have K2 : Hid (Below w.heap.size w w2) := bel_on K1.out hb2
  clear hb2
  obtain ⟨c0, c00⟩ := HCL.out _ K2.out
  go_wp2_with (first | (go_at_call 7; (with_reducible refine (HIW.out _ K2.out).mono ?_); rintro e w3 ⟨rfl, rfl⟩) | (go_at_call 8; (with_reducible refine (HIC.out _ K2.out).mono ?_); rintro e w3 ⟨rfl, rfl⟩) | (refine wpList_load_row rfl 29 (.tmp 9) rfl w0.heap.size rfl 29 s.cs.toArray (0, 0) _ (HXT.out _ K2.out) Tryz.underlying29 rfl HIN.out ?_) | (refine wpList_load_row rfl 23 (.tmp 11) rfl (w0.heap.size + 1) rfl 23 (cellsB K).toArray (0, 0) _ (HXK.out _ K2.out) under_key rfl (cellsB_size _ HKL.out) ?_))
  --MARK 1
  refine (HRG.out _ K2.out).mono ?_
  rintro e w3 ⟨⟨N, a, C, b, rfl, hN3, hC3⟩, hb3⟩
  have K3 : Hid (Below w.heap.size w w3) := bel_on K2.out hb3
  obtain ⟨bN, oN, rfl, hbN, hcn⟩ := hN3.key_at (i := j) (by rw [HNN.out]; omega)
  obtain ⟨bC, oC, rfl, hbC, -⟩ := hC3.key_at (i := j) (by rw [HLN.out]; omega)
  rw [HKNJ.out] at hcn
  obtain ⟨rg, hrg⟩ : ∃ q, q = regC s.cs (some ⟨bA, oA, none⟩) n c (some ⟨bN, oN, none⟩) n a (some ⟨bC, oC, none⟩) n b rt := ⟨_, rfl⟩
  have HRI : Hid ((Tryz.prog.info? 37).map (·.size) = some rg.toArray.size) := by rw [hrg]; exact (HRIA.out _ _ _ _).1
  have HRO : Hid (zReg.size = rg.toArray.size) := by rw [hrg]; exact (HRIA.out _ _ _ _).2.1
  have HRA : Hid (rg.toArray.all (·.oneCell') = true) := by rw [hrg]; exact (HRIA.out _ _ _ _).2.2
  have HAC2 := HAC.out
  have HAC3 : Hid (∀ W, Below w.heap.size w W → KR W (some ⟨bN, oN, none⟩) a ns → KR W (some ⟨bC, oC, none⟩) b L → Calls Tryz.prog 10 #[.agg rg.toArray, .int .i64 (j : Int), .slice Y k d, .int .i64 need] W fun e w' => (∃ A' c', e = .returned (.tuple #[.agg (caseC xv A' pm c' Y k d Xj k xj).toArray, .bool true]) ∧ CaseOK w' xv A' pm c' Y k d Xj k xj) ∧ Below W.heap.size W w') := fun W => by rw [hrg]; exact HAC2 W _ _ _ _
  have HGET : Hid (rg[20]? = some (.slice (some ⟨bA, oA, none⟩) n c) ∧ rg[21]? = some (.slice (some ⟨bN, oN, none⟩) n a) ∧ rg[22]? = some (.slice (some ⟨bC, oC, none⟩) n b)) := by rw [hrg]; exact regC_get s.cs H20.out _ n c _ n a _ n b rt
  have N3 := Lib.hid hN3
  have C3 := Lib.hid hC3
  have R3 := Lib.hid hcn
  rw [← hrg]
  clear HAC HAC2 HRIA hb3 hN3 hC3 hcn hrg HRG HSZ HIW HIC HA HNN HKNJ c0 c00
  go_wp2_with (first
    | ((first | rw [zero39] | skip); refine wpList_store_row rfl 37 (.tmp 20) (.tmp 87) rfl w3.heap.size rg.toArray rfl rfl 37 zReg (Blk.new w3 _ _) HRI.out HRO.out HRA.out ?_; obtain ⟨w4, hV⟩ : ∃ W, W = (w3.alloc (.cells zReg 37)).setRow w3.heap.size rg.toArray := ⟨_, rfl⟩; rw [← hV]; obtain ⟨gb, nb⟩ := keybox2_ _ _ _ _ hV; have G4 := Lib.hid nb; have K4 := Lib.hid (bel_on K3.out gb); have N4 := Lib.hid (N3.out.below gb); have C4 := Lib.hid (C3.out.below gb); have R4 := Lib.hid (range_up gb R3.out); clear hV gb nb)
    | (refine wpList_load_row rfl 37 (.tmp 20) rfl w3.heap.size rfl 37 rg.toArray (0, 0) _ (G4.out) Tryz.underlying37 rfl HRI.out ?_))
  --MARK 2
  refine (HAC3.out _ K4.out N4.out C4.out).mono ?_
  rintro e w5 ⟨⟨A', c', rfl, hq5⟩, hb5⟩
  have K5 : Hid (Below w.heap.size w w5) := bel_on K4.out hb5
  have HG5 : Hid (∀ W, Below w5.heap.size w5 W → Blk W w3.heap.size 37 rg.toArray) := fun W hW => (G4.out.below' hb5).below' hW
  have HCX5 : Hid (∀ W, Below w5.heap.size w5 W → CaseOK W xv A' pm c' Y k d Xj k xj) := fun W hW => hq5.below hW
  have HC21 : Hid (∀ W, Below w5.heap.size w5 W → W.cell? ⟨w3.heap.size, 21, none⟩ = some (.slice (some ⟨bN, oN, none⟩) n a) ∧ W.cell? ⟨w3.heap.size, 22, none⟩ = some (.slice (some ⟨bC, oC, none⟩) n b)) := fun W hW => by
    have h1 := (HG5.out W hW).cell 21
    have h2 := (HG5.out W hW).cell 22
    rw [List.getElem?_toArray, HGET.out.2.1] at h1
    rw [List.getElem?_toArray, HGET.out.2.2] at h2
    exact ⟨h1, h2⟩
  have HKR : Hid (∀ W, Below w5.heap.size w5 W → W.rangeAt bN (oN + j * 16) (cellsB kn) ∧ KR W (some ⟨bC, oC, none⟩) b L) := fun W hW => ⟨range_up hW (range_up hb5 R4.out), (C4.out.below hb5).below hW⟩
  have HKW : Hid (∀ W, Below w5.heap.size w5 W → Below w.heap.size w W) := fun W hW => bel_on K5.out hW
  clear hb5 hq5 HAC3 HGET G4 N4 C4 R4 N3 C3 R3 HRO HRA
  have hXV := HX16.out
  go_wp2_with (first
    | ((first | rw [zero55_] | skip); refine wpList_store_row rfl 43 (.tmp 22) (.tmp 95) rfl w5.heap.size (caseC xv A' pm c' Y k d Xj k xj).toArray rfl rfl 43 zCase (Blk.new w5 _ _) (case_info HX16.out.1 HX16.out.2.1 HX16.out.2.2) (zCase_old HX16.out.1 HX16.out.2.1 HX16.out.2.2) (by simpa using caseC_all _ _ _ _ _ _ _ _ _ _) ?_; obtain ⟨w6, hV⟩ : ∃ W, W = (w5.alloc (.cells zCase 43)).setRow w5.heap.size (caseC xv A' pm c' Y k d Xj k xj).toArray := ⟨_, rfl⟩; rw [← hV]; obtain ⟨gb, nb⟩ := keybox2_ _ _ _ _ hV; have Q6 := Lib.hid nb; have F6 := Lib.hid gb; clear hV gb nb)
    | (refine wpList_load_row rfl 43 (.tmp 22) rfl w5.heap.size rfl 43 (caseC xv A' pm c' Y k d Xj k xj).toArray (0, 0) _ Q6.out Tryz.underlying43 rfl (case_info HX16.out.1 HX16.out.2.1 HX16.out.2.2) ?_)
    | ((first | rw [zero55_] | skip); refine wpList_store_row rfl 43 (.tmp 24) (.tmp 103) rfl w6.heap.size (caseC xv A' pm c' Y k d Xj k xj).toArray rfl rfl 43 zCase (Blk.new w6 _ _) (case_info HX16.out.1 HX16.out.2.1 HX16.out.2.2) (zCase_old HX16.out.1 HX16.out.2.1 HX16.out.2.2) (by simpa using caseC_all _ _ _ _ _ _ _ _ _ _) ?_; obtain ⟨w7, hV⟩ : ∃ W, W = (w6.alloc (.cells zCase 43)).setRow w6.heap.size (caseC xv A' pm c' Y k d Xj k xj).toArray := ⟨_, rfl⟩; rw [← hV]; obtain ⟨gb, nb⟩ := keybox2_ _ _ _ _ hV; have T7 := Lib.hid nb; have E7 := Lib.hid gb; have F7 := Lib.hid (bel_on F6.out gb); clear hV gb nb)
    | (refine wpList_load_row rfl 23 (.tmp 13) rfl (w0.heap.size + 1 + 1) rfl 23 (cellsB O).toArray (0, 0) _ (HXO.out _ (HKW.out _ F7.out)) under_key rfl (cellsB_size _ HOL.out) ?_)
    | (refine wpList_store_mid rfl 23 (.tmp 105) (.tmp 104) rfl w6.heap.size 16 (cellsB O).toArray rfl rfl (T7.out.there (by rw [List.size_toArray, List.size_toArray, caseC_length hXV.1 hXV.2.1 hXV.2.2, cellsB_length, HOL.out]; omega)) (cellsB_size _ HOL.out) (cellsB_all _) ?_; obtain ⟨w8, hV⟩ : ∃ W, W = w7.setCells w6.heap.size 16 (cellsB O).toArray.toList := ⟨_, rfl⟩; rw [← hV]; have hV' : w8 = w7.setRow w6.heap.size (caseC lv A' pm c' Y k d Xj k xj).toArray := hV.trans (by rw [HLV.out]; exact case_com T7.out hXV.1 hXV.2.1 HOL.out); have T8 : Hid (Blk w8 w6.heap.size 43 (caseC lv A' pm c' Y k d Xj k xj).toArray) := (by unfold Hid; rw [hV']; exact T7.out.setRow _); have E8 : Hid (Below w6.heap.size w6 w8) := (by unfold Hid; rw [hV']; exact below_setRow E7.out (Nat.le_refl _) _); have F8 : Hid (Below w5.heap.size w5 w8) := bel_on F6.out E8.out; clear hV hV')
    | (refine wpList_load_row rfl 43 (.tmp 24) rfl w6.heap.size rfl 43 (caseC lv A' pm c' Y k d Xj k xj).toArray (0, 0) _ T8.out Tryz.underlying43 rfl (case_info HL16.out.1 HL16.out.2.1 HL16.out.2.2) ?_))
  --MARK 3
  refine (HJL.out _ _ _ (HKW.out _ F8.out) (HCX5.out _ F8.out)).mono ?_
  rintro e w9 ⟨rfl, hb9⟩
  have E9 : Hid (Below w6.heap.size w6 w9) := bel_on E8.out hb9
  have F9 : Hid (Below w5.heap.size w5 w9) := bel_on F8.out hb9
  clear hb9
  by_cases hv1 : vd = 1
  · subst hv1
    go_wp2_with fail
    --MARK 4
    have QD : Blk w9.drew w5.heap.size 43 (caseC xv A' pm c' Y k d Xj k xj).toArray := (Q6.out.below' E9.out).drew
    have z1 : w9.drew.setCell ⟨w5.heap.size, 38, none⟩ (.slice Hh k ch) = (w9.drew.setRow w5.heap.size (caseC (xv.withHalf half) A' pm c' Y k d Hh k ch).toArray) := case_half QD hXV.1 hXV.2.1 half Hh k ch
    have z2 : (w9.drew.setRow w5.heap.size (caseC (xv.withHalf half) A' pm c' Y k d Hh k ch).toArray).setCells w5.heap.size 39 (cellsB V) = (w9.drew.setRow w5.heap.size (caseC v2 A' pm c' Y k d Hh k ch).toArray) := by rw [case_nonce (QD.setRow (caseC (xv.withHalf half) A' pm c' Y k d Hh k ch).toArray) hXV.1 hXV.2.1 hXV.2.2 HVL.out, setRow_setRow, HV2.out]
    have y1 : w9.drew.cell? ⟨w5.heap.size, 38, none⟩ = some (.slice Xj k xj) := (box_of QD hXV.1 hXV.2.1 hXV.2.2).c38
    have y2 := QD.frozen 38
    have t2 : (w9.drew.setRow w5.heap.size (caseC (xv.withHalf half) A' pm c' Y k d Hh k ch).toArray).there w5.heap.size 39 (cellsB V).toArray.size := (QD.setRow (caseC (xv.withHalf half) A' pm c' Y k d Hh k ch).toArray).there (by rw [List.size_toArray, List.size_toArray, caseC_length (v := xv.withHalf half) hXV.1 hXV.2.1 hXV.2.2, cellsB_length, HVL.out]; omega)
    refine wp_region_noPanic ?_
    refine wp_region_held_drew (S := fun W' => Below w5.heap.size w5 W') (by kernel_rfl) F9.out.drew (fun hS => ?_)
    refine hd_take 0 (_) rfl rfl (by kernel_rfl) (by kernel_rfl) (by kernel_rfl) (fun _ _ _ h => h) (fun w hw => by go_simp <;> rfl) hS ?_
    simp only [List.getElem_toArray, List.getElem_cons_succ, List.getElem_cons_zero, Act.put, List.setIfInBounds_toArray, List.set_cons_zero, List.set_cons_succ]
    refine hd_load 1 (w0.heap.size + 1 + 1 + 1) (0) (cellsB V) _ _ rfl rfl rfl (by kernel_rfl) (by kernel_rfl) (by kernel_rfl) (fun _ _ _ h => h) rfl (fun w hw => (HXV.out _ (HKW.out _ hw)).range) under_key rfl (key_info HVL.out) hS ?_
    simp only [List.getElem_toArray, List.getElem_cons_succ, List.getElem_cons_zero, Act.put, List.setIfInBounds_toArray, List.set_cons_zero, List.set_cons_succ]
    refine hd_take 2 (_) rfl rfl (by kernel_rfl) (by kernel_rfl) (by kernel_rfl) (fun _ _ _ h => h) (fun w hw => by go_simp <;> rfl) hS ?_
    simp only [List.getElem_toArray, List.getElem_cons_succ, List.getElem_cons_zero, Act.put, List.setIfInBounds_toArray, List.set_cons_zero, List.set_cons_succ]
    refine hd_sole 3 (by kernel_rfl) (op_skip (w9.drew.setRow w5.heap.size (caseC (xv.withHalf half) A' pm c' Y k d Hh k ch).toArray) rfl rfl (by rw [← z1]; simp [go_sem, execOp, y1, y2]) ⟨(below_setRow F9.out.drew (Nat.le_refl _) (caseC (xv.withHalf half) A' pm c' Y k d Hh k ch).toArray), ?_⟩)
    simp only [List.getElem_toArray, List.getElem_cons_succ, List.getElem_cons_zero, Act.put, List.setIfInBounds_toArray, List.set_cons_zero, List.set_cons_succ]
    refine hd_take 4 (_) rfl rfl (by kernel_rfl) (by kernel_rfl) (by kernel_rfl) (fun _ _ _ h => h) (fun w hw => by go_simp <;> rfl) (below_setRow F9.out.drew (Nat.le_refl _) (caseC (xv.withHalf half) A' pm c' Y k d Hh k ch).toArray) ?_
    simp only [List.getElem_toArray, List.getElem_cons_succ, List.getElem_cons_zero, Act.put, List.setIfInBounds_toArray, List.set_cons_zero, List.set_cons_succ]
    refine hd_sole 5 (by kernel_rfl) (op_skip (w9.drew.setRow w5.heap.size (caseC v2 A' pm c' Y k d Hh k ch).toArray) rfl rfl ((run_op_mid 23 _ _ rfl w5.heap.size 39 (cellsB V).toArray rfl rfl t2 (cellsB_size _ HVL.out) (cellsB_all _)).trans (by rw [← z2])) ⟨(below_setRow F9.out.drew (Nat.le_refl _) (caseC v2 A' pm c' Y k d Hh k ch).toArray), ?_⟩)
    simp only [List.getElem_toArray, List.getElem_cons_succ, List.getElem_cons_zero, Act.put, List.setIfInBounds_toArray, List.set_cons_zero, List.set_cons_succ]
    refine wpAnyH_done (by kernel_rfl) (NoPanic.normal ?_) _
    obtain ⟨w20, hw20⟩ : ∃ W, W = (w9.drew.setRow w5.heap.size (caseC v2 A' pm c' Y k d Hh k ch).toArray) := ⟨_, rfl⟩
    have Q20 : Hid (Blk w20 w5.heap.size 43 (caseC v2 A' pm c' Y k d Hh k ch).toArray) := by unfold Hid; rw [hw20]; exact QD.setRow _
    have F20 : Hid (Below w5.heap.size w5 w20) := by unfold Hid; rw [hw20]; exact (below_setRow F9.out.drew (Nat.le_refl _) (caseC v2 A' pm c' Y k d Hh k ch).toArray)
    rw [← hw20]
    clear hw20 z1 z2 y1 y2 t2 QD hS
    go_wp2_with (first | (refine wpList_load_row rfl 43 (.tmp 22) rfl w5.heap.size rfl 43 (caseC v2 A' pm c' Y k d Hh k ch).toArray (0, 0) _ Q20.out Tryz.underlying43 rfl (case_info H216.out.1 H216.out.2.1 H216.out.2.2) ?_))
    --MARK 5
    refine (HJ2.out _ _ _ (HKW.out _ F20.out) (HCX5.out _ F20.out)).mono ?_
    rintro e w21 ⟨rfl, hb21⟩
    have F21 : Hid (Below w5.heap.size w5 w21) := bel_on F20.out hb21
    clear hb21
    --MARK 8
    by_cases hv2e : ve = 2
    · subst hv2e
      go_wp2_with fail
      refine wp_region_noPanic ?_
      refine wp_region_held_drew (S := fun W' => Below w5.heap.size w5 W') (by kernel_rfl) F21.out.drew (fun hS => ?_)
      refine hd_take 0 (_) rfl rfl (by kernel_rfl) (by kernel_rfl) (by kernel_rfl) (fun _ _ _ h => h) (fun w hw => by go_simp <;> rfl) hS ?_
      simp only [List.getElem_toArray, List.getElem_cons_succ, List.getElem_cons_zero, Act.put, List.setIfInBounds_toArray, List.set_cons_zero, List.set_cons_succ]
      refine hd_take 1 (.bool true) rfl rfl (by kernel_rfl) (by kernel_rfl) (by kernel_rfl) (fun _ _ _ h => h) (fun w hw => by simp [go_sem]) hS ?_
      simp only [List.getElem_toArray, List.getElem_cons_succ, List.getElem_cons_zero, Act.put, List.setIfInBounds_toArray, List.set_cons_zero, List.set_cons_succ]
      refine hd_take 2 (_) rfl rfl (by kernel_rfl) (by kernel_rfl) (by kernel_rfl) (fun _ _ _ h => h) (fun w hw => by go_simp <;> rfl) hS ?_
      simp only [List.getElem_toArray, List.getElem_cons_succ, List.getElem_cons_zero, Act.put, List.setIfInBounds_toArray, List.set_cons_zero, List.set_cons_succ]
      refine hg_skip 3 rfl (by rfl) (by kernel_rfl) (by kernel_rfl) (by kernel_rfl) (fun _ _ _ h => h) hS ?_
      simp only [List.getElem_toArray, List.getElem_cons_succ, List.getElem_cons_zero, Act.put, List.setIfInBounds_toArray, List.set_cons_zero, List.set_cons_succ]
      refine hg_skip 4 rfl (by rfl) (by kernel_rfl) (by kernel_rfl) (by kernel_rfl) (fun _ _ _ h => h) hS ?_
      simp only [List.getElem_toArray, List.getElem_cons_succ, List.getElem_cons_zero, Act.put, List.setIfInBounds_toArray, List.set_cons_zero, List.set_cons_succ]
      refine hg_skip 5 rfl (by rfl) (by kernel_rfl) (by kernel_rfl) (by kernel_rfl) (fun _ _ _ h => h) hS ?_
      simp only [List.getElem_toArray, List.getElem_cons_succ, List.getElem_cons_zero, Act.put, List.setIfInBounds_toArray, List.set_cons_zero, List.set_cons_succ]
      refine hg_skip 6 rfl (by rfl) (by kernel_rfl) (by kernel_rfl) (by kernel_rfl) (fun _ _ _ h => h) hS ?_
      simp only [List.getElem_toArray, List.getElem_cons_succ, List.getElem_cons_zero, Act.put, List.setIfInBounds_toArray, List.set_cons_zero, List.set_cons_succ]
      refine hg_skip 7 rfl (by rfl) (by kernel_rfl) (by kernel_rfl) (by kernel_rfl) (fun _ _ _ h => h) hS ?_
      simp only [List.getElem_toArray, List.getElem_cons_succ, List.getElem_cons_zero, Act.put, List.setIfInBounds_toArray, List.set_cons_zero, List.set_cons_succ]
      refine hg_skip 8 rfl (by rfl) (by kernel_rfl) (by kernel_rfl) (by kernel_rfl) (fun _ _ _ h => h) hS ?_
      simp only [List.getElem_toArray, List.getElem_cons_succ, List.getElem_cons_zero, Act.put, List.setIfInBounds_toArray, List.set_cons_zero, List.set_cons_succ]
      refine hg_skip 9 rfl (by rfl) (by kernel_rfl) (by kernel_rfl) (by kernel_rfl) (fun _ _ _ h => h) hS ?_
      simp only [List.getElem_toArray, List.getElem_cons_succ, List.getElem_cons_zero, Act.put, List.setIfInBounds_toArray, List.set_cons_zero, List.set_cons_succ]
      refine hg_skip 10 rfl (by rfl) (by kernel_rfl) (by kernel_rfl) (by kernel_rfl) (fun _ _ _ h => h) hS ?_
      simp only [List.getElem_toArray, List.getElem_cons_succ, List.getElem_cons_zero, Act.put, List.setIfInBounds_toArray, List.set_cons_zero, List.set_cons_succ]
      refine hg_skip 11 rfl (by rfl) (by kernel_rfl) (by kernel_rfl) (by kernel_rfl) (fun _ _ _ h => h) hS ?_
      simp only [List.getElem_toArray, List.getElem_cons_succ, List.getElem_cons_zero, Act.put, List.setIfInBounds_toArray, List.set_cons_zero, List.set_cons_succ]
      refine hg_skip 12 rfl (by rfl) (by kernel_rfl) (by kernel_rfl) (by kernel_rfl) (fun _ _ _ h => h) hS ?_
      simp only [List.getElem_toArray, List.getElem_cons_succ, List.getElem_cons_zero, Act.put, List.setIfInBounds_toArray, List.set_cons_zero, List.set_cons_succ]
      refine hg_skip 13 rfl (by rfl) (by kernel_rfl) (by kernel_rfl) (by kernel_rfl) (fun _ _ _ h => h) hS ?_
      simp only [List.getElem_toArray, List.getElem_cons_succ, List.getElem_cons_zero, Act.put, List.setIfInBounds_toArray, List.set_cons_zero, List.set_cons_succ]
      refine hg_skip 14 rfl (by rfl) (by kernel_rfl) (by kernel_rfl) (by kernel_rfl) (fun _ _ _ h => h) hS ?_
      simp only [List.getElem_toArray, List.getElem_cons_succ, List.getElem_cons_zero, Act.put, List.setIfInBounds_toArray, List.set_cons_zero, List.set_cons_succ]
      refine hg_skip 15 rfl (by rfl) (by kernel_rfl) (by kernel_rfl) (by kernel_rfl) (fun _ _ _ h => h) hS ?_
      simp only [List.getElem_toArray, List.getElem_cons_succ, List.getElem_cons_zero, Act.put, List.setIfInBounds_toArray, List.set_cons_zero, List.set_cons_succ]
      refine hg_skip 16 rfl (by rfl) (by kernel_rfl) (by kernel_rfl) (by kernel_rfl) (fun _ _ _ h => h) hS ?_
      simp only [List.getElem_toArray, List.getElem_cons_succ, List.getElem_cons_zero, Act.put, List.setIfInBounds_toArray, List.set_cons_zero, List.set_cons_succ]
      refine hg_skip 17 rfl (by rfl) (by kernel_rfl) (by kernel_rfl) (by kernel_rfl) (fun _ _ _ h => h) hS ?_
      simp only [List.getElem_toArray, List.getElem_cons_succ, List.getElem_cons_zero, Act.put, List.setIfInBounds_toArray, List.set_cons_zero, List.set_cons_succ]
      refine hg_skip 18 rfl (by rfl) (by kernel_rfl) (by kernel_rfl) (by kernel_rfl) (fun _ _ _ h => h) hS ?_
      simp only [List.getElem_toArray, List.getElem_cons_succ, List.getElem_cons_zero, Act.put, List.setIfInBounds_toArray, List.set_cons_zero, List.set_cons_succ]
      refine hg_skip 19 rfl (by rfl) (by kernel_rfl) (by kernel_rfl) (by kernel_rfl) (fun _ _ _ h => h) hS ?_
      simp only [List.getElem_toArray, List.getElem_cons_succ, List.getElem_cons_zero, Act.put, List.setIfInBounds_toArray, List.set_cons_zero, List.set_cons_succ]
      refine hd_take 20 (_) rfl rfl (by kernel_rfl) (by kernel_rfl) (by kernel_rfl) (fun _ _ _ h => h) (fun w hw => by go_simp <;> rfl) hS ?_
      simp only [List.getElem_toArray, List.getElem_cons_succ, List.getElem_cons_zero, Act.put, List.setIfInBounds_toArray, List.set_cons_zero, List.set_cons_succ]
      refine wpAnyH_done (by kernel_rfl) (NoPanic.normal ?_) _
      have F22' := F21.out.drew
      obtain ⟨w22, hw22⟩ : ∃ W, W = w21.drew := ⟨_, rfl⟩
      rw [← hw22] at F22' ⊢
      have F22 := Lib.hid F22'
      clear F22' hw22 hS
      go_wp2_with fail
      go_ret
      exact ⟨by simp, bel_on b0.out (HKW.out _ F22.out)⟩
    go_wp2_with fail
    by_cases hhe : half = hv
    · subst hhe
      by_cases hvk : V = kn
      · have HVK : Hid ((V == kn) = true) := by unfold Hid; simpa using hvk
        clear hvk
        refine wp_region_noPanic ?_
        refine wp_region_held_drew (S := fun W' => Below w5.heap.size w5 W') (by kernel_rfl) F21.out.drew (fun hS => ?_)
        refine hd_take 0 (_) rfl rfl (by kernel_rfl) (by kernel_rfl) (by kernel_rfl) (fun _ _ _ h => h) (fun w hw => by go_simp <;> rfl) hS ?_
        simp only [List.getElem_toArray, List.getElem_cons_succ, List.getElem_cons_zero, Act.put, List.setIfInBounds_toArray, List.set_cons_zero, List.set_cons_succ]
        refine hd_take 1 (.bool false) rfl rfl (by kernel_rfl) (by kernel_rfl) (by kernel_rfl) (fun _ _ _ h => h) (fun w hw => by simp [go_sem, hv2e]) hS ?_
        simp only [List.getElem_toArray, List.getElem_cons_succ, List.getElem_cons_zero, Act.put, List.setIfInBounds_toArray, List.set_cons_zero, List.set_cons_succ]
        refine hd_take 2 (_) rfl rfl (by kernel_rfl) (by kernel_rfl) (by kernel_rfl) (fun _ _ _ h => h) (fun w hw => by go_simp <;> rfl) hS ?_
        simp only [List.getElem_toArray, List.getElem_cons_succ, List.getElem_cons_zero, Act.put, List.setIfInBounds_toArray, List.set_cons_zero, List.set_cons_succ]
        refine hg_take 3 (_) rfl (by rfl) (by kernel_rfl) (by kernel_rfl) (by kernel_rfl) (fun _ _ _ h => h) (fun w hw => by go_simp <;> rfl) hS ?_
        simp only [List.getElem_toArray, List.getElem_cons_succ, List.getElem_cons_zero, Act.put, List.setIfInBounds_toArray, List.set_cons_zero, List.set_cons_succ]
        refine hg_take 4 (.string (strB half)) rfl (by rfl) (by kernel_rfl) (by kernel_rfl) (by kernel_rfl) (fun _ _ _ h => h) (fun w hw => by have hx := run_string_br (HBH.out _ (HKW.out _ hw)) _ HHN.out; simp [execOp, Act.eval, Act.put, Sem.run_bind, hx]) hS ?_
        simp only [List.getElem_toArray, List.getElem_cons_succ, List.getElem_cons_zero, Act.put, List.setIfInBounds_toArray, List.set_cons_zero, List.set_cons_succ]
        refine hg_take 5 (_) rfl (by rfl) (by kernel_rfl) (by kernel_rfl) (by kernel_rfl) (fun _ _ _ h => h) (fun w hw => by go_simp <;> rfl) hS ?_
        simp only [List.getElem_toArray, List.getElem_cons_succ, List.getElem_cons_zero, Act.put, List.setIfInBounds_toArray, List.set_cons_zero, List.set_cons_succ]
        refine hg_take 6 (_) rfl (by rfl) (by kernel_rfl) (by kernel_rfl) (by kernel_rfl) (fun _ _ _ h => h) (fun w hw => by go_simp <;> rfl) hS ?_
        simp only [List.getElem_toArray, List.getElem_cons_succ, List.getElem_cons_zero, Act.put, List.setIfInBounds_toArray, List.set_cons_zero, List.set_cons_succ]
        refine hg_take 7 (_) rfl (by rfl) (by kernel_rfl) (by kernel_rfl) (by kernel_rfl) (fun _ _ _ h => h) (fun w hw => by go_simp <;> rfl) hS ?_
        simp only [List.getElem_toArray, List.getElem_cons_succ, List.getElem_cons_zero, Act.put, List.setIfInBounds_toArray, List.set_cons_zero, List.set_cons_succ]
        refine hg_take 8 (.slice Xj k xj) rfl (by rfl) (by kernel_rfl) (by kernel_rfl) (by kernel_rfl) (fun _ _ _ h => h) (fun w hw => by have hx := (HRJ.out _ (HKW.out _ hw)).1; simp [go_sem, hx]) hS ?_
        simp only [List.getElem_toArray, List.getElem_cons_succ, List.getElem_cons_zero, Act.put, List.setIfInBounds_toArray, List.set_cons_zero, List.set_cons_succ]
        refine hg_take 9 (.string (strB half)) rfl (by rfl) (by kernel_rfl) (by kernel_rfl) (by kernel_rfl) (fun _ _ _ h => h) (fun w hw => by have hx := run_string_br (HRJ.out _ (HKW.out _ hw)).2 _ HVN.out; simp [execOp, Act.eval, Act.put, Sem.run_bind, hx]) hS ?_
        simp only [List.getElem_toArray, List.getElem_cons_succ, List.getElem_cons_zero, Act.put, List.setIfInBounds_toArray, List.set_cons_zero, List.set_cons_succ]
        refine hg_take 10 (.bool true) rfl (by rfl) (by kernel_rfl) (by kernel_rfl) (by kernel_rfl) (fun _ _ _ h => h) (fun w hw => by simp [go_sem]) hS ?_
        simp only [List.getElem_toArray, List.getElem_cons_succ, List.getElem_cons_zero, Act.put, List.setIfInBounds_toArray, List.set_cons_zero, List.set_cons_succ]
        refine hg_take 11 (_) rfl (by rfl) (by kernel_rfl) (by kernel_rfl) (by kernel_rfl) (fun _ _ _ h => h) (fun w hw => by go_simp <;> rfl) hS ?_
        simp only [List.getElem_toArray, List.getElem_cons_succ, List.getElem_cons_zero, Act.put, List.setIfInBounds_toArray, List.set_cons_zero, List.set_cons_succ]
        refine hg_load 12 (w0.heap.size + 1 + 1 + 1) (0) (cellsB V) _ _ rfl rfl (by rfl) (by kernel_rfl) (by kernel_rfl) (by kernel_rfl) (fun _ _ _ h => h) rfl (fun w hw => (HXV.out _ (HKW.out _ hw)).range) under_key rfl (key_info HVL.out) hS ?_
        simp only [List.getElem_toArray, List.getElem_cons_succ, List.getElem_cons_zero, Act.put, List.setIfInBounds_toArray, List.set_cons_zero, List.set_cons_succ]
        refine hg_take 13 (_) rfl (by rfl) (by kernel_rfl) (by kernel_rfl) (by kernel_rfl) (fun _ _ _ h => h) (fun w hw => by go_simp <;> rfl) hS ?_
        simp only [List.getElem_toArray, List.getElem_cons_succ, List.getElem_cons_zero, Act.put, List.setIfInBounds_toArray, List.set_cons_zero, List.set_cons_succ]
        refine hg_take 14 (.slice (some ⟨bN, oN, none⟩) n a) rfl (by rfl) (by kernel_rfl) (by kernel_rfl) (by kernel_rfl) (fun _ _ _ h => h) (fun w hw => by have hx := (HC21.out _ hw).1; simp [go_sem, hx]) hS ?_
        simp only [List.getElem_toArray, List.getElem_cons_succ, List.getElem_cons_zero, Act.put, List.setIfInBounds_toArray, List.set_cons_zero, List.set_cons_succ]
        refine hg_take 15 (_) rfl (by rfl) (by kernel_rfl) (by kernel_rfl) (by kernel_rfl) (fun _ _ _ h => h) (fun w hw => by go_simp <;> rfl) hS ?_
        simp only [List.getElem_toArray, List.getElem_cons_succ, List.getElem_cons_zero, Act.put, List.setIfInBounds_toArray, List.set_cons_zero, List.set_cons_succ]
        refine hg_take 16 (_) rfl (by rfl) (by kernel_rfl) (by kernel_rfl) (by kernel_rfl) (fun _ _ _ h => h) (fun w hw => by go_simp <;> rfl) hS ?_
        simp only [List.getElem_toArray, List.getElem_cons_succ, List.getElem_cons_zero, Act.put, List.setIfInBounds_toArray, List.set_cons_zero, List.set_cons_succ]
        refine hg_load 17 (bN) (oN + j * 16) (cellsB kn) _ _ rfl rfl (by rfl) (by kernel_rfl) (by kernel_rfl) (by kernel_rfl) (fun _ _ _ h => h) rfl (fun w hw => (HKR.out _ hw).1) under_key rfl (key_info HKN.out) hS ?_
        simp only [List.getElem_toArray, List.getElem_cons_succ, List.getElem_cons_zero, Act.put, List.setIfInBounds_toArray, List.set_cons_zero, List.set_cons_succ]
        refine hg_take 18 (.bool true) rfl (by rfl) (by kernel_rfl) (by kernel_rfl) (by kernel_rfl) (fun _ _ _ h => h) (fun w hw => by have hx := equalIn_keys w V kn HVL HKN; rw [HVK.out] at hx; simp [go_sem, hx]) hS ?_
        simp only [List.getElem_toArray, List.getElem_cons_succ, List.getElem_cons_zero, Act.put, List.setIfInBounds_toArray, List.set_cons_zero, List.set_cons_succ]
        refine hg_take 19 (_) rfl (by rfl) (by kernel_rfl) (by kernel_rfl) (by kernel_rfl) (fun _ _ _ h => h) (fun w hw => by go_simp <;> rfl) hS ?_
        simp only [List.getElem_toArray, List.getElem_cons_succ, List.getElem_cons_zero, Act.put, List.setIfInBounds_toArray, List.set_cons_zero, List.set_cons_succ]
        refine hd_take 20 (_) rfl rfl (by kernel_rfl) (by kernel_rfl) (by kernel_rfl) (fun _ _ _ h => h) (fun w hw => by go_simp <;> rfl) hS ?_
        simp only [List.getElem_toArray, List.getElem_cons_succ, List.getElem_cons_zero, Act.put, List.setIfInBounds_toArray, List.set_cons_zero, List.set_cons_succ]
        refine wpAnyH_done (by kernel_rfl) (NoPanic.normal ?_) _
        have F22' := F21.out.drew
        obtain ⟨w22, hw22⟩ : ∃ W, W = w21.drew := ⟨_, rfl⟩
        rw [← hw22] at F22' ⊢
        have F22 := Lib.hid F22'
        clear F22' hw22 hS
        go_wp2_with fail
        go_ret
        exact ⟨by simp, bel_on b0.out (HKW.out _ F22.out)⟩
      · have HVK : Hid ((V == kn) = false) := by unfold Hid; simpa using hvk
        have HCL2 : Hid (Clash [openT half V, openT half kn]) := open_clash HVL.out HKN.out (HOTH.out hv2e) HKC0.out (fun h => hvk h.2)
        clear hvk
        refine wp_region_noPanic ?_
        refine wp_region_held_drew (S := fun W' => Below w5.heap.size w5 W') (by kernel_rfl) F21.out.drew (fun hS => ?_)
        refine hd_take 0 (_) rfl rfl (by kernel_rfl) (by kernel_rfl) (by kernel_rfl) (fun _ _ _ h => h) (fun w hw => by go_simp <;> rfl) hS ?_
        simp only [List.getElem_toArray, List.getElem_cons_succ, List.getElem_cons_zero, Act.put, List.setIfInBounds_toArray, List.set_cons_zero, List.set_cons_succ]
        refine hd_take 1 (.bool false) rfl rfl (by kernel_rfl) (by kernel_rfl) (by kernel_rfl) (fun _ _ _ h => h) (fun w hw => by simp [go_sem, hv2e]) hS ?_
        simp only [List.getElem_toArray, List.getElem_cons_succ, List.getElem_cons_zero, Act.put, List.setIfInBounds_toArray, List.set_cons_zero, List.set_cons_succ]
        refine hd_take 2 (_) rfl rfl (by kernel_rfl) (by kernel_rfl) (by kernel_rfl) (fun _ _ _ h => h) (fun w hw => by go_simp <;> rfl) hS ?_
        simp only [List.getElem_toArray, List.getElem_cons_succ, List.getElem_cons_zero, Act.put, List.setIfInBounds_toArray, List.set_cons_zero, List.set_cons_succ]
        refine hg_take 3 (_) rfl (by rfl) (by kernel_rfl) (by kernel_rfl) (by kernel_rfl) (fun _ _ _ h => h) (fun w hw => by go_simp <;> rfl) hS ?_
        simp only [List.getElem_toArray, List.getElem_cons_succ, List.getElem_cons_zero, Act.put, List.setIfInBounds_toArray, List.set_cons_zero, List.set_cons_succ]
        refine hg_take 4 (.string (strB half)) rfl (by rfl) (by kernel_rfl) (by kernel_rfl) (by kernel_rfl) (fun _ _ _ h => h) (fun w hw => by have hx := run_string_br (HBH.out _ (HKW.out _ hw)) _ HHN.out; simp [execOp, Act.eval, Act.put, Sem.run_bind, hx]) hS ?_
        simp only [List.getElem_toArray, List.getElem_cons_succ, List.getElem_cons_zero, Act.put, List.setIfInBounds_toArray, List.set_cons_zero, List.set_cons_succ]
        refine hg_take 5 (_) rfl (by rfl) (by kernel_rfl) (by kernel_rfl) (by kernel_rfl) (fun _ _ _ h => h) (fun w hw => by go_simp <;> rfl) hS ?_
        simp only [List.getElem_toArray, List.getElem_cons_succ, List.getElem_cons_zero, Act.put, List.setIfInBounds_toArray, List.set_cons_zero, List.set_cons_succ]
        refine hg_take 6 (_) rfl (by rfl) (by kernel_rfl) (by kernel_rfl) (by kernel_rfl) (fun _ _ _ h => h) (fun w hw => by go_simp <;> rfl) hS ?_
        simp only [List.getElem_toArray, List.getElem_cons_succ, List.getElem_cons_zero, Act.put, List.setIfInBounds_toArray, List.set_cons_zero, List.set_cons_succ]
        refine hg_take 7 (_) rfl (by rfl) (by kernel_rfl) (by kernel_rfl) (by kernel_rfl) (fun _ _ _ h => h) (fun w hw => by go_simp <;> rfl) hS ?_
        simp only [List.getElem_toArray, List.getElem_cons_succ, List.getElem_cons_zero, Act.put, List.setIfInBounds_toArray, List.set_cons_zero, List.set_cons_succ]
        refine hg_take 8 (.slice Xj k xj) rfl (by rfl) (by kernel_rfl) (by kernel_rfl) (by kernel_rfl) (fun _ _ _ h => h) (fun w hw => by have hx := (HRJ.out _ (HKW.out _ hw)).1; simp [go_sem, hx]) hS ?_
        simp only [List.getElem_toArray, List.getElem_cons_succ, List.getElem_cons_zero, Act.put, List.setIfInBounds_toArray, List.set_cons_zero, List.set_cons_succ]
        refine hg_take 9 (.string (strB half)) rfl (by rfl) (by kernel_rfl) (by kernel_rfl) (by kernel_rfl) (fun _ _ _ h => h) (fun w hw => by have hx := run_string_br (HRJ.out _ (HKW.out _ hw)).2 _ HVN.out; simp [execOp, Act.eval, Act.put, Sem.run_bind, hx]) hS ?_
        simp only [List.getElem_toArray, List.getElem_cons_succ, List.getElem_cons_zero, Act.put, List.setIfInBounds_toArray, List.set_cons_zero, List.set_cons_succ]
        refine hg_take 10 (.bool true) rfl (by rfl) (by kernel_rfl) (by kernel_rfl) (by kernel_rfl) (fun _ _ _ h => h) (fun w hw => by simp [go_sem]) hS ?_
        simp only [List.getElem_toArray, List.getElem_cons_succ, List.getElem_cons_zero, Act.put, List.setIfInBounds_toArray, List.set_cons_zero, List.set_cons_succ]
        refine hg_take 11 (_) rfl (by rfl) (by kernel_rfl) (by kernel_rfl) (by kernel_rfl) (fun _ _ _ h => h) (fun w hw => by go_simp <;> rfl) hS ?_
        simp only [List.getElem_toArray, List.getElem_cons_succ, List.getElem_cons_zero, Act.put, List.setIfInBounds_toArray, List.set_cons_zero, List.set_cons_succ]
        refine hg_load 12 (w0.heap.size + 1 + 1 + 1) (0) (cellsB V) _ _ rfl rfl (by rfl) (by kernel_rfl) (by kernel_rfl) (by kernel_rfl) (fun _ _ _ h => h) rfl (fun w hw => (HXV.out _ (HKW.out _ hw)).range) under_key rfl (key_info HVL.out) hS ?_
        simp only [List.getElem_toArray, List.getElem_cons_succ, List.getElem_cons_zero, Act.put, List.setIfInBounds_toArray, List.set_cons_zero, List.set_cons_succ]
        refine hg_take 13 (_) rfl (by rfl) (by kernel_rfl) (by kernel_rfl) (by kernel_rfl) (fun _ _ _ h => h) (fun w hw => by go_simp <;> rfl) hS ?_
        simp only [List.getElem_toArray, List.getElem_cons_succ, List.getElem_cons_zero, Act.put, List.setIfInBounds_toArray, List.set_cons_zero, List.set_cons_succ]
        refine hg_take 14 (.slice (some ⟨bN, oN, none⟩) n a) rfl (by rfl) (by kernel_rfl) (by kernel_rfl) (by kernel_rfl) (fun _ _ _ h => h) (fun w hw => by have hx := (HC21.out _ hw).1; simp [go_sem, hx]) hS ?_
        simp only [List.getElem_toArray, List.getElem_cons_succ, List.getElem_cons_zero, Act.put, List.setIfInBounds_toArray, List.set_cons_zero, List.set_cons_succ]
        refine hg_take 15 (_) rfl (by rfl) (by kernel_rfl) (by kernel_rfl) (by kernel_rfl) (fun _ _ _ h => h) (fun w hw => by go_simp <;> rfl) hS ?_
        simp only [List.getElem_toArray, List.getElem_cons_succ, List.getElem_cons_zero, Act.put, List.setIfInBounds_toArray, List.set_cons_zero, List.set_cons_succ]
        refine hg_take 16 (_) rfl (by rfl) (by kernel_rfl) (by kernel_rfl) (by kernel_rfl) (fun _ _ _ h => h) (fun w hw => by go_simp <;> rfl) hS ?_
        simp only [List.getElem_toArray, List.getElem_cons_succ, List.getElem_cons_zero, Act.put, List.setIfInBounds_toArray, List.set_cons_zero, List.set_cons_succ]
        refine hg_load 17 (bN) (oN + j * 16) (cellsB kn) _ _ rfl rfl (by rfl) (by kernel_rfl) (by kernel_rfl) (by kernel_rfl) (fun _ _ _ h => h) rfl (fun w hw => (HKR.out _ hw).1) under_key rfl (key_info HKN.out) hS ?_
        simp only [List.getElem_toArray, List.getElem_cons_succ, List.getElem_cons_zero, Act.put, List.setIfInBounds_toArray, List.set_cons_zero, List.set_cons_succ]
        refine hg_take 18 (.bool false) rfl (by rfl) (by kernel_rfl) (by kernel_rfl) (by kernel_rfl) (fun _ _ _ h => h) (fun w hw => by have hx := equalIn_keys w V kn HVL HKN; rw [HVK.out] at hx; simp [go_sem, hx]) hS ?_
        simp only [List.getElem_toArray, List.getElem_cons_succ, List.getElem_cons_zero, Act.put, List.setIfInBounds_toArray, List.set_cons_zero, List.set_cons_succ]
        refine hg_take 19 (_) rfl (by rfl) (by kernel_rfl) (by kernel_rfl) (by kernel_rfl) (fun _ _ _ h => h) (fun w hw => by go_simp <;> rfl) hS ?_
        simp only [List.getElem_toArray, List.getElem_cons_succ, List.getElem_cons_zero, Act.put, List.setIfInBounds_toArray, List.set_cons_zero, List.set_cons_succ]
        refine hd_take 20 (_) rfl rfl (by kernel_rfl) (by kernel_rfl) (by kernel_rfl) (fun _ _ _ h => h) (fun w hw => by go_simp <;> rfl) hS ?_
        simp only [List.getElem_toArray, List.getElem_cons_succ, List.getElem_cons_zero, Act.put, List.setIfInBounds_toArray, List.set_cons_zero, List.set_cons_succ]
        refine wpAnyH_done (by kernel_rfl) (NoPanic.normal ?_) _
        have F22' := F21.out.drew
        obtain ⟨w22, hw22⟩ : ∃ W, W = w21.drew := ⟨_, rfl⟩
        rw [← hw22] at F22' ⊢
        have F22 := Lib.hid F22'
        clear F22' hw22 hS
        have HSL : Hid ((([2] : List UInt8) ++ V).length = 17) := by unfold Hid; simp [HVL.out]
        have HTL : Hid ((([2] : List UInt8) ++ kn).length = 17) := by unfold Hid; simp [HKN.out]
        have HS1 : Hid ((([2] : List UInt8) ++ V ++ half).length = 17 + k) := by unfold Hid; simp [HVL.out, HHN.out]; omega
        have HT1 : Hid ((([2] : List UInt8) ++ kn ++ half).length = 17 + k) := by unfold Hid; simp [HKN.out, HVN.out]; omega
        go_wp2_with (first | (at_builtin; (first | rw [show (#[.int .u8 2] : Array Value) = (cellsB [2]).toArray from rfl] | skip); refine wpList_append_bytes _ rfl (.tmp 180) (.tmp 181) rfl w22.heap.size (some ⟨w22.heap.size, 0, none⟩) 1 1 [2] rfl rfl (OB.lit _ w22 [2] (Nat.le_refl _) (by simp) rfl) (some ⟨w0.heap.size + 1 + 1 + 1, 0, none⟩) 16 16 V HVL.out rfl (((HXV.out _ (HKW.out _ F22.out)).below' (alloc_bel w22 _)).src HVL.out) (by omega) (by simp) ?_; intro A6 c6 w23 hon hbl hg; have O6 := Lib.hid hon; have E6 := Lib.hid ((alloc_bel w22 _).trans hbl); clear hon hbl hg) | (at_builtin; refine wpList_append_bytes _ rfl (.tmp 182) (.tmp 183) rfl w22.heap.size A6 17 c6 ([2] ++ V) HSL.out rfl O6.out Hh k ch half HHN.out rfl ((HBH.out _ (HKW.out _ (bel_on F22.out E6.out))).src HHN.out) (by omega) E6.out.size ?_; intro A7 c7 w24 hon hbl hg; have O7 := Lib.hid hon; have F24 := Lib.hid (bel_on F22.out (E6.out.trans hbl)); clear hon hbl hg))
        --MARK 6
        refine wp_region_noPanic ?_
        refine wp_region_held_drew (S := fun W' => Below w5.heap.size w5 W') (by kernel_rfl) F24.out.drew (fun hS => ?_)
        refine hd_take 1 (_) rfl rfl (by kernel_rfl) (by kernel_rfl) (by kernel_rfl) (fun _ _ _ h => h) (fun w hw => by go_simp <;> rfl) hS ?_
        simp only [List.getElem_toArray, List.getElem_cons_succ, List.getElem_cons_zero, Act.put, List.setIfInBounds_toArray, List.set_cons_zero, List.set_cons_succ]
        refine hd_take 2 (.slice (some ⟨bN, oN, none⟩) n a) rfl rfl (by kernel_rfl) (by kernel_rfl) (by kernel_rfl) (fun _ _ _ h => h) (fun w hw => by have hx := (HC21.out _ hw).1; simp [go_sem, hx]) hS ?_
        simp only [List.getElem_toArray, List.getElem_cons_succ, List.getElem_cons_zero, Act.put, List.setIfInBounds_toArray, List.set_cons_zero, List.set_cons_succ]
        refine hd_take 3 (_) rfl rfl (by kernel_rfl) (by kernel_rfl) (by kernel_rfl) (fun _ _ _ h => h) (fun w hw => by go_simp <;> rfl) hS ?_
        simp only [List.getElem_toArray, List.getElem_cons_succ, List.getElem_cons_zero, Act.put, List.setIfInBounds_toArray, List.set_cons_zero, List.set_cons_succ]
        refine hd_take 4 (_) rfl rfl (by kernel_rfl) (by kernel_rfl) (by kernel_rfl) (fun _ _ _ h => h) (fun w hw => by go_simp <;> rfl) hS ?_
        simp only [List.getElem_toArray, List.getElem_cons_succ, List.getElem_cons_zero, Act.put, List.setIfInBounds_toArray, List.set_cons_zero, List.set_cons_succ]
        refine hd_take 5 (_) rfl rfl (by kernel_rfl) (by kernel_rfl) (by kernel_rfl) (fun _ _ _ h => h) (fun w hw => by go_simp <;> rfl) hS ?_
        simp only [List.getElem_toArray, List.getElem_cons_succ, List.getElem_cons_zero, Act.put, List.setIfInBounds_toArray, List.set_cons_zero, List.set_cons_succ]
        refine hd_take 7 (_) rfl rfl (by kernel_rfl) (by kernel_rfl) (by kernel_rfl) (fun _ _ _ h => h) (fun w hw => by go_simp <;> rfl) hS ?_
        simp only [List.getElem_toArray, List.getElem_cons_succ, List.getElem_cons_zero, Act.put, List.setIfInBounds_toArray, List.set_cons_zero, List.set_cons_succ]
        refine hd_take 8 (_) rfl rfl (by kernel_rfl) (by kernel_rfl) (by kernel_rfl) (fun _ _ _ h => h) (fun w hw => by go_simp <;> rfl) hS ?_
        simp only [List.getElem_toArray, List.getElem_cons_succ, List.getElem_cons_zero, Act.put, List.setIfInBounds_toArray, List.set_cons_zero, List.set_cons_succ]
        refine hd_take 9 (_) rfl rfl (by kernel_rfl) (by kernel_rfl) (by kernel_rfl) (fun _ _ _ h => h) (fun w hw => by go_simp <;> rfl) hS ?_
        simp only [List.getElem_toArray, List.getElem_cons_succ, List.getElem_cons_zero, Act.put, List.setIfInBounds_toArray, List.set_cons_zero, List.set_cons_succ]
        refine hd_take 10 (.slice Xj k xj) rfl rfl (by kernel_rfl) (by kernel_rfl) (by kernel_rfl) (fun _ _ _ h => h) (fun w hw => by have hx := (HRJ.out _ (HKW.out _ hw)).1; simp [go_sem, hx]) hS ?_
        simp only [List.getElem_toArray, List.getElem_cons_succ, List.getElem_cons_zero, Act.put, List.setIfInBounds_toArray, List.set_cons_zero, List.set_cons_succ]
        --MARK 7
        have d0 : Below w24.heap.size w24 (w24.drew.alloc (.cells (cellsB [2]).toArray 5)) := bel_on (Below.refl _ _).drew (alloc_bel w24.drew _)
        refine hd_sole 0 (by kernel_rfl) (op_run (.slice (some ⟨w24.heap.size, 0, none⟩) 1 1) (w24.drew.alloc (.cells (cellsB [2]).toArray 5)) rfl rfl (by go_simp <;> rfl) ⟨bel_on F24.out d0, ?_⟩)
        simp only [List.getElem_toArray, List.getElem_cons_succ, List.getElem_cons_zero, Act.put, List.setIfInBounds_toArray, List.set_cons_zero, List.set_cons_succ]
        refine hd_appB 6 (.tmp 185) (.tmp 190) rfl rfl rfl (by kernel_rfl) w24.heap.size (some ⟨w24.heap.size, 0, none⟩) 1 1 [2] rfl rfl (OB.lit _ w24.drew [2] (Nat.le_refl _) (by simp) rfl) (some ⟨bN, oN + j * 16, none⟩) 16 16 kn HKN.out rfl (range_src (HKR.out _ (bel_on F24.out d0)).1 HKN.out) (by omega) d0.size ?_
        intro A8 c8 w26 hon8 hbl8
        have d1 := d0.trans hbl8
        refine ⟨bel_on F24.out d1, ?_⟩
        simp only [List.getElem_toArray, List.getElem_cons_succ, List.getElem_cons_zero, Act.put, List.setIfInBounds_toArray, List.set_cons_zero, List.set_cons_succ]
        refine hd_appB 11 (.tmp 191) (.tmp 195) rfl rfl rfl (by kernel_rfl) w24.heap.size A8 17 c8 ([2] ++ kn) HTL.out rfl hon8 Xj k xj half HVN.out rfl ((HRJ.out _ (HKW.out _ (bel_on F24.out d1))).2.src HVN.out) (by omega) d1.size ?_
        intro A9 c9 w27 hon9 hbl9
        have d2 := d1.trans hbl9
        have F27 : Hid (Below w5.heap.size w5 w27) := bel_on F24.out d2
        refine ⟨F27.out, ?_⟩
        simp only [List.getElem_toArray, List.getElem_cons_succ, List.getElem_cons_zero, Act.put, List.setIfInBounds_toArray, List.set_cons_zero, List.set_cons_succ]
        refine hd_take 12 (_) rfl rfl (by kernel_rfl) (by kernel_rfl) (by kernel_rfl) (fun _ _ _ h => h) (fun w hw => by go_simp <;> rfl) F27.out ?_
        simp only [List.getElem_toArray, List.getElem_cons_succ, List.getElem_cons_zero, Act.put, List.setIfInBounds_toArray, List.set_cons_zero, List.set_cons_succ]
        refine wpAnyH_done (by kernel_rfl) (NoPanic.normal ?_) _
        have R1 : Hid (BR w27 A7 c7 ([2] ++ V ++ half)) := (O7.out.below d2).br (by rw [HS1.out]; omega)
        have R2 : Hid (BR w27 A9 c9 ([2] ++ kn ++ half)) := hon9.br (by rw [HT1.out]; omega)
        have HCC := Lib.hid (clash2_any A7 c7 ([2] ++ V ++ half) A9 c9 ([2] ++ kn ++ half) w27 HS1.out HT1.out R1.out R2.out (by omega) (by omega) HCL2.out)
        clear d0 d1 d2 hbl8 hbl9 hon8 hon9 hS
        go_wp2_with (first | (go_at_call 14; (with_reducible refine HCC.out.mono ?_); rintro e w28 ⟨rfl, hb28⟩; have F28 := Lib.hid (bel_on F27.out hb28); clear hb28))
        go_ret
        exact ⟨by simp, bel_on b0.out (HKW.out _ F28.out)⟩
    · have HSNE : Hid (¬ strB half = strB hv ∧ ¬ (strB half).toList = (strB hv).toList) := str_ne hhe
      have HCL2 : Hid (Clash [openT half V, openT hv kn]) := open_clash HVL.out HKN.out (HOTH.out hv2e) HKC0.out (fun h => hhe h.1)
      clear hhe
      refine wp_region_noPanic ?_
      refine wp_region_held_drew (S := fun W' => Below w5.heap.size w5 W') (by kernel_rfl) F21.out.drew (fun hS => ?_)
      refine hd_take 0 (_) rfl rfl (by kernel_rfl) (by kernel_rfl) (by kernel_rfl) (fun _ _ _ h => h) (fun w hw => by go_simp <;> rfl) hS ?_
      simp only [List.getElem_toArray, List.getElem_cons_succ, List.getElem_cons_zero, Act.put, List.setIfInBounds_toArray, List.set_cons_zero, List.set_cons_succ]
      refine hd_take 1 (.bool false) rfl rfl (by kernel_rfl) (by kernel_rfl) (by kernel_rfl) (fun _ _ _ h => h) (fun w hw => by simp [go_sem, hv2e]) hS ?_
      simp only [List.getElem_toArray, List.getElem_cons_succ, List.getElem_cons_zero, Act.put, List.setIfInBounds_toArray, List.set_cons_zero, List.set_cons_succ]
      refine hd_take 2 (_) rfl rfl (by kernel_rfl) (by kernel_rfl) (by kernel_rfl) (fun _ _ _ h => h) (fun w hw => by go_simp <;> rfl) hS ?_
      simp only [List.getElem_toArray, List.getElem_cons_succ, List.getElem_cons_zero, Act.put, List.setIfInBounds_toArray, List.set_cons_zero, List.set_cons_succ]
      refine hg_take 3 (_) rfl (by rfl) (by kernel_rfl) (by kernel_rfl) (by kernel_rfl) (fun _ _ _ h => h) (fun w hw => by go_simp <;> rfl) hS ?_
      simp only [List.getElem_toArray, List.getElem_cons_succ, List.getElem_cons_zero, Act.put, List.setIfInBounds_toArray, List.set_cons_zero, List.set_cons_succ]
      refine hg_take 4 (.string (strB half)) rfl (by rfl) (by kernel_rfl) (by kernel_rfl) (by kernel_rfl) (fun _ _ _ h => h) (fun w hw => by have hx := run_string_br (HBH.out _ (HKW.out _ hw)) _ HHN.out; simp [execOp, Act.eval, Act.put, Sem.run_bind, hx]) hS ?_
      simp only [List.getElem_toArray, List.getElem_cons_succ, List.getElem_cons_zero, Act.put, List.setIfInBounds_toArray, List.set_cons_zero, List.set_cons_succ]
      refine hg_take 5 (_) rfl (by rfl) (by kernel_rfl) (by kernel_rfl) (by kernel_rfl) (fun _ _ _ h => h) (fun w hw => by go_simp <;> rfl) hS ?_
      simp only [List.getElem_toArray, List.getElem_cons_succ, List.getElem_cons_zero, Act.put, List.setIfInBounds_toArray, List.set_cons_zero, List.set_cons_succ]
      refine hg_take 6 (_) rfl (by rfl) (by kernel_rfl) (by kernel_rfl) (by kernel_rfl) (fun _ _ _ h => h) (fun w hw => by go_simp <;> rfl) hS ?_
      simp only [List.getElem_toArray, List.getElem_cons_succ, List.getElem_cons_zero, Act.put, List.setIfInBounds_toArray, List.set_cons_zero, List.set_cons_succ]
      refine hg_take 7 (_) rfl (by rfl) (by kernel_rfl) (by kernel_rfl) (by kernel_rfl) (fun _ _ _ h => h) (fun w hw => by go_simp <;> rfl) hS ?_
      simp only [List.getElem_toArray, List.getElem_cons_succ, List.getElem_cons_zero, Act.put, List.setIfInBounds_toArray, List.set_cons_zero, List.set_cons_succ]
      refine hg_take 8 (.slice Xj k xj) rfl (by rfl) (by kernel_rfl) (by kernel_rfl) (by kernel_rfl) (fun _ _ _ h => h) (fun w hw => by have hx := (HRJ.out _ (HKW.out _ hw)).1; simp [go_sem, hx]) hS ?_
      simp only [List.getElem_toArray, List.getElem_cons_succ, List.getElem_cons_zero, Act.put, List.setIfInBounds_toArray, List.set_cons_zero, List.set_cons_succ]
      refine hg_take 9 (.string (strB hv)) rfl (by rfl) (by kernel_rfl) (by kernel_rfl) (by kernel_rfl) (fun _ _ _ h => h) (fun w hw => by have hx := run_string_br (HRJ.out _ (HKW.out _ hw)).2 _ HVN.out; simp [execOp, Act.eval, Act.put, Sem.run_bind, hx]) hS ?_
      simp only [List.getElem_toArray, List.getElem_cons_succ, List.getElem_cons_zero, Act.put, List.setIfInBounds_toArray, List.set_cons_zero, List.set_cons_succ]
      refine hg_take 10 (.bool false) rfl (by rfl) (by kernel_rfl) (by kernel_rfl) (by kernel_rfl) (fun _ _ _ h => h) (fun w hw => by simp [go_sem, HSNE.out.1, HSNE.out.2]) hS ?_
      simp only [List.getElem_toArray, List.getElem_cons_succ, List.getElem_cons_zero, Act.put, List.setIfInBounds_toArray, List.set_cons_zero, List.set_cons_succ]
      refine hg_take 11 (_) rfl (by rfl) (by kernel_rfl) (by kernel_rfl) (by kernel_rfl) (fun _ _ _ h => h) (fun w hw => by go_simp <;> rfl) hS ?_
      simp only [List.getElem_toArray, List.getElem_cons_succ, List.getElem_cons_zero, Act.put, List.setIfInBounds_toArray, List.set_cons_zero, List.set_cons_succ]
      refine hg_skip 12 rfl (by rfl) (by kernel_rfl) (by kernel_rfl) (by kernel_rfl) (fun _ _ _ h => h) hS ?_
      simp only [List.getElem_toArray, List.getElem_cons_succ, List.getElem_cons_zero, Act.put, List.setIfInBounds_toArray, List.set_cons_zero, List.set_cons_succ]
      refine hg_skip 13 rfl (by rfl) (by kernel_rfl) (by kernel_rfl) (by kernel_rfl) (fun _ _ _ h => h) hS ?_
      simp only [List.getElem_toArray, List.getElem_cons_succ, List.getElem_cons_zero, Act.put, List.setIfInBounds_toArray, List.set_cons_zero, List.set_cons_succ]
      refine hg_skip 14 rfl (by rfl) (by kernel_rfl) (by kernel_rfl) (by kernel_rfl) (fun _ _ _ h => h) hS ?_
      simp only [List.getElem_toArray, List.getElem_cons_succ, List.getElem_cons_zero, Act.put, List.setIfInBounds_toArray, List.set_cons_zero, List.set_cons_succ]
      refine hg_skip 15 rfl (by rfl) (by kernel_rfl) (by kernel_rfl) (by kernel_rfl) (fun _ _ _ h => h) hS ?_
      simp only [List.getElem_toArray, List.getElem_cons_succ, List.getElem_cons_zero, Act.put, List.setIfInBounds_toArray, List.set_cons_zero, List.set_cons_succ]
      refine hg_skip 16 rfl (by rfl) (by kernel_rfl) (by kernel_rfl) (by kernel_rfl) (fun _ _ _ h => h) hS ?_
      simp only [List.getElem_toArray, List.getElem_cons_succ, List.getElem_cons_zero, Act.put, List.setIfInBounds_toArray, List.set_cons_zero, List.set_cons_succ]
      refine hg_skip 17 rfl (by rfl) (by kernel_rfl) (by kernel_rfl) (by kernel_rfl) (fun _ _ _ h => h) hS ?_
      simp only [List.getElem_toArray, List.getElem_cons_succ, List.getElem_cons_zero, Act.put, List.setIfInBounds_toArray, List.set_cons_zero, List.set_cons_succ]
      refine hg_skip 18 rfl (by rfl) (by kernel_rfl) (by kernel_rfl) (by kernel_rfl) (fun _ _ _ h => h) hS ?_
      simp only [List.getElem_toArray, List.getElem_cons_succ, List.getElem_cons_zero, Act.put, List.setIfInBounds_toArray, List.set_cons_zero, List.set_cons_succ]
      refine hg_take 19 (_) rfl (by rfl) (by kernel_rfl) (by kernel_rfl) (by kernel_rfl) (fun _ _ _ h => h) (fun w hw => by go_simp <;> rfl) hS ?_
      simp only [List.getElem_toArray, List.getElem_cons_succ, List.getElem_cons_zero, Act.put, List.setIfInBounds_toArray, List.set_cons_zero, List.set_cons_succ]
      refine hd_take 20 (_) rfl rfl (by kernel_rfl) (by kernel_rfl) (by kernel_rfl) (fun _ _ _ h => h) (fun w hw => by go_simp <;> rfl) hS ?_
      simp only [List.getElem_toArray, List.getElem_cons_succ, List.getElem_cons_zero, Act.put, List.setIfInBounds_toArray, List.set_cons_zero, List.set_cons_succ]
      refine wpAnyH_done (by kernel_rfl) (NoPanic.normal ?_) _
      have F22' := F21.out.drew
      obtain ⟨w22, hw22⟩ : ∃ W, W = w21.drew := ⟨_, rfl⟩
      rw [← hw22] at F22' ⊢
      have F22 := Lib.hid F22'
      clear F22' hw22 hS
      have HSL : Hid ((([2] : List UInt8) ++ V).length = 17) := by unfold Hid; simp [HVL.out]
      have HTL : Hid ((([2] : List UInt8) ++ kn).length = 17) := by unfold Hid; simp [HKN.out]
      have HS1 : Hid ((([2] : List UInt8) ++ V ++ half).length = 17 + k) := by unfold Hid; simp [HVL.out, HHN.out]; omega
      have HT1 : Hid ((([2] : List UInt8) ++ kn ++ hv).length = 17 + k) := by unfold Hid; simp [HKN.out, HVN.out]; omega
      go_wp2_with (first | (at_builtin; (first | rw [show (#[.int .u8 2] : Array Value) = (cellsB [2]).toArray from rfl] | skip); refine wpList_append_bytes _ rfl (.tmp 180) (.tmp 181) rfl w22.heap.size (some ⟨w22.heap.size, 0, none⟩) 1 1 [2] rfl rfl (OB.lit _ w22 [2] (Nat.le_refl _) (by simp) rfl) (some ⟨w0.heap.size + 1 + 1 + 1, 0, none⟩) 16 16 V HVL.out rfl (((HXV.out _ (HKW.out _ F22.out)).below' (alloc_bel w22 _)).src HVL.out) (by omega) (by simp) ?_; intro A6 c6 w23 hon hbl hg; have O6 := Lib.hid hon; have E6 := Lib.hid ((alloc_bel w22 _).trans hbl); clear hon hbl hg) | (at_builtin; refine wpList_append_bytes _ rfl (.tmp 182) (.tmp 183) rfl w22.heap.size A6 17 c6 ([2] ++ V) HSL.out rfl O6.out Hh k ch half HHN.out rfl ((HBH.out _ (HKW.out _ (bel_on F22.out E6.out))).src HHN.out) (by omega) E6.out.size ?_; intro A7 c7 w24 hon hbl hg; have O7 := Lib.hid hon; have F24 := Lib.hid (bel_on F22.out (E6.out.trans hbl)); clear hon hbl hg))
      --MARK 6
      refine wp_region_noPanic ?_
      refine wp_region_held_drew (S := fun W' => Below w5.heap.size w5 W') (by kernel_rfl) F24.out.drew (fun hS => ?_)
      refine hd_take 1 (_) rfl rfl (by kernel_rfl) (by kernel_rfl) (by kernel_rfl) (fun _ _ _ h => h) (fun w hw => by go_simp <;> rfl) hS ?_
      simp only [List.getElem_toArray, List.getElem_cons_succ, List.getElem_cons_zero, Act.put, List.setIfInBounds_toArray, List.set_cons_zero, List.set_cons_succ]
      refine hd_take 2 (.slice (some ⟨bN, oN, none⟩) n a) rfl rfl (by kernel_rfl) (by kernel_rfl) (by kernel_rfl) (fun _ _ _ h => h) (fun w hw => by have hx := (HC21.out _ hw).1; simp [go_sem, hx]) hS ?_
      simp only [List.getElem_toArray, List.getElem_cons_succ, List.getElem_cons_zero, Act.put, List.setIfInBounds_toArray, List.set_cons_zero, List.set_cons_succ]
      refine hd_take 3 (_) rfl rfl (by kernel_rfl) (by kernel_rfl) (by kernel_rfl) (fun _ _ _ h => h) (fun w hw => by go_simp <;> rfl) hS ?_
      simp only [List.getElem_toArray, List.getElem_cons_succ, List.getElem_cons_zero, Act.put, List.setIfInBounds_toArray, List.set_cons_zero, List.set_cons_succ]
      refine hd_take 4 (_) rfl rfl (by kernel_rfl) (by kernel_rfl) (by kernel_rfl) (fun _ _ _ h => h) (fun w hw => by go_simp <;> rfl) hS ?_
      simp only [List.getElem_toArray, List.getElem_cons_succ, List.getElem_cons_zero, Act.put, List.setIfInBounds_toArray, List.set_cons_zero, List.set_cons_succ]
      refine hd_take 5 (_) rfl rfl (by kernel_rfl) (by kernel_rfl) (by kernel_rfl) (fun _ _ _ h => h) (fun w hw => by go_simp <;> rfl) hS ?_
      simp only [List.getElem_toArray, List.getElem_cons_succ, List.getElem_cons_zero, Act.put, List.setIfInBounds_toArray, List.set_cons_zero, List.set_cons_succ]
      refine hd_take 7 (_) rfl rfl (by kernel_rfl) (by kernel_rfl) (by kernel_rfl) (fun _ _ _ h => h) (fun w hw => by go_simp <;> rfl) hS ?_
      simp only [List.getElem_toArray, List.getElem_cons_succ, List.getElem_cons_zero, Act.put, List.setIfInBounds_toArray, List.set_cons_zero, List.set_cons_succ]
      refine hd_take 8 (_) rfl rfl (by kernel_rfl) (by kernel_rfl) (by kernel_rfl) (fun _ _ _ h => h) (fun w hw => by go_simp <;> rfl) hS ?_
      simp only [List.getElem_toArray, List.getElem_cons_succ, List.getElem_cons_zero, Act.put, List.setIfInBounds_toArray, List.set_cons_zero, List.set_cons_succ]
      refine hd_take 9 (_) rfl rfl (by kernel_rfl) (by kernel_rfl) (by kernel_rfl) (fun _ _ _ h => h) (fun w hw => by go_simp <;> rfl) hS ?_
      simp only [List.getElem_toArray, List.getElem_cons_succ, List.getElem_cons_zero, Act.put, List.setIfInBounds_toArray, List.set_cons_zero, List.set_cons_succ]
      refine hd_take 10 (.slice Xj k xj) rfl rfl (by kernel_rfl) (by kernel_rfl) (by kernel_rfl) (fun _ _ _ h => h) (fun w hw => by have hx := (HRJ.out _ (HKW.out _ hw)).1; simp [go_sem, hx]) hS ?_
      simp only [List.getElem_toArray, List.getElem_cons_succ, List.getElem_cons_zero, Act.put, List.setIfInBounds_toArray, List.set_cons_zero, List.set_cons_succ]
      --MARK 7
      have d0 : Below w24.heap.size w24 (w24.drew.alloc (.cells (cellsB [2]).toArray 5)) := bel_on (Below.refl _ _).drew (alloc_bel w24.drew _)
      refine hd_sole 0 (by kernel_rfl) (op_run (.slice (some ⟨w24.heap.size, 0, none⟩) 1 1) (w24.drew.alloc (.cells (cellsB [2]).toArray 5)) rfl rfl (by go_simp <;> rfl) ⟨bel_on F24.out d0, ?_⟩)
      simp only [List.getElem_toArray, List.getElem_cons_succ, List.getElem_cons_zero, Act.put, List.setIfInBounds_toArray, List.set_cons_zero, List.set_cons_succ]
      refine hd_appB 6 (.tmp 185) (.tmp 190) rfl rfl rfl (by kernel_rfl) w24.heap.size (some ⟨w24.heap.size, 0, none⟩) 1 1 [2] rfl rfl (OB.lit _ w24.drew [2] (Nat.le_refl _) (by simp) rfl) (some ⟨bN, oN + j * 16, none⟩) 16 16 kn HKN.out rfl (range_src (HKR.out _ (bel_on F24.out d0)).1 HKN.out) (by omega) d0.size ?_
      intro A8 c8 w26 hon8 hbl8
      have d1 := d0.trans hbl8
      refine ⟨bel_on F24.out d1, ?_⟩
      simp only [List.getElem_toArray, List.getElem_cons_succ, List.getElem_cons_zero, Act.put, List.setIfInBounds_toArray, List.set_cons_zero, List.set_cons_succ]
      refine hd_appB 11 (.tmp 191) (.tmp 195) rfl rfl rfl (by kernel_rfl) w24.heap.size A8 17 c8 ([2] ++ kn) HTL.out rfl hon8 Xj k xj hv HVN.out rfl ((HRJ.out _ (HKW.out _ (bel_on F24.out d1))).2.src HVN.out) (by omega) d1.size ?_
      intro A9 c9 w27 hon9 hbl9
      have d2 := d1.trans hbl9
      have F27 : Hid (Below w5.heap.size w5 w27) := bel_on F24.out d2
      refine ⟨F27.out, ?_⟩
      simp only [List.getElem_toArray, List.getElem_cons_succ, List.getElem_cons_zero, Act.put, List.setIfInBounds_toArray, List.set_cons_zero, List.set_cons_succ]
      refine hd_take 12 (_) rfl rfl (by kernel_rfl) (by kernel_rfl) (by kernel_rfl) (fun _ _ _ h => h) (fun w hw => by go_simp <;> rfl) F27.out ?_
      simp only [List.getElem_toArray, List.getElem_cons_succ, List.getElem_cons_zero, Act.put, List.setIfInBounds_toArray, List.set_cons_zero, List.set_cons_succ]
      refine wpAnyH_done (by kernel_rfl) (NoPanic.normal ?_) _
      have R1 : Hid (BR w27 A7 c7 ([2] ++ V ++ half)) := (O7.out.below d2).br (by rw [HS1.out]; omega)
      have R2 : Hid (BR w27 A9 c9 ([2] ++ kn ++ hv)) := hon9.br (by rw [HT1.out]; omega)
      have HCC := Lib.hid (clash2_any A7 c7 ([2] ++ V ++ half) A9 c9 ([2] ++ kn ++ hv) w27 HS1.out HT1.out R1.out R2.out (by omega) (by omega) HCL2.out)
      clear d0 d1 d2 hbl8 hbl9 hon8 hon9 hS
      go_wp2_with (first | (go_at_call 14; (with_reducible refine HCC.out.mono ?_); rintro e w28 ⟨rfl, hb28⟩; have F28 := Lib.hid (bel_on F27.out hb28); clear hb28))
      go_ret
      exact ⟨by simp, bel_on b0.out (HKW.out _ F28.out)⟩
  have tv1 : decide (vd = 1) = false := by simp [hv1]
  have tv2 : (vd == 1) = false := by simp [hv1]
  have tv3 : decide (¬ vd = 1) = true := by simp [hv1]
  have tv4 : (vd != 1) = true := by simp [hv1]
  have tv5 : decide (vd ≠ 1) = true := by simp [hv1]
  have hxe := equalIn_keys w9 O kc HOL HKC
  have RC9 : Hid (w9.rangeAt w5.heap.size 16 (cellsB kc)) := by
    have := (box_of (Q6.out.below' E9.out) hXV.1 hXV.2.1 hXV.2.2).com
    rw [HXF.out.2.1] at this
    exact this
  by_cases hoc : kc = O
  · subst hoc
    have hbb : (kc == kc) = true := by simp
    rw [hbb] at hxe
    go_wp2_with (first | ((first | simp only [tv1, tv2, tv3, tv4, tv5, Bool.not_false] | skip); refine BigFrame.wpList_want (by rfl) fun K' hK' => wp_load_row 23 (.tmp 13) rfl (w0.heap.size + 1 + 1) rfl 23 (cellsB kc).toArray (0, 0) _ (HXO.out _ (HKW.out _ F9.out)) under_key rfl (cellsB_size _ HOL.out) (hK' _ _ ?_)) | (refine BigFrame.wpList_want (by rfl) fun K' hK' => wp_load_mid 23 (.tmp 117) rfl (w5.heap.size) 16 rfl (cellsB kc) _ RC9.out under_key rfl (key_info HKC.out) (hK' _ _ ?_)))
    --MARK 9
    clear hxe
    have QD : Blk w9.drew w5.heap.size 43 (caseC xv A' pm c' Y k d Xj k xj).toArray := (Q6.out.below' E9.out).drew
    have z1 : w9.drew.setCell ⟨w5.heap.size, 38, none⟩ (.slice Hh k ch) = (w9.drew.setRow w5.heap.size (caseC (xv.withHalf half) A' pm c' Y k d Hh k ch).toArray) := case_half QD hXV.1 hXV.2.1 half Hh k ch
    have z2 : (w9.drew.setRow w5.heap.size (caseC (xv.withHalf half) A' pm c' Y k d Hh k ch).toArray).setCells w5.heap.size 39 (cellsB V) = (w9.drew.setRow w5.heap.size (caseC v2 A' pm c' Y k d Hh k ch).toArray) := by rw [case_nonce (QD.setRow (caseC (xv.withHalf half) A' pm c' Y k d Hh k ch).toArray) hXV.1 hXV.2.1 hXV.2.2 HVL.out, setRow_setRow, HV2.out]
    have y1 : w9.drew.cell? ⟨w5.heap.size, 38, none⟩ = some (.slice Xj k xj) := (box_of QD hXV.1 hXV.2.1 hXV.2.2).c38
    have y2 := QD.frozen 38
    have t2 : (w9.drew.setRow w5.heap.size (caseC (xv.withHalf half) A' pm c' Y k d Hh k ch).toArray).there w5.heap.size 39 (cellsB V).toArray.size := (QD.setRow (caseC (xv.withHalf half) A' pm c' Y k d Hh k ch).toArray).there (by rw [List.size_toArray, List.size_toArray, caseC_length (v := xv.withHalf half) hXV.1 hXV.2.1 hXV.2.2, cellsB_length, HVL.out]; omega)
    refine wp_region_noPanic ?_
    refine wp_region_held_drew (S := fun W' => Below w5.heap.size w5 W') (by kernel_rfl) F9.out.drew (fun hS => ?_)
    refine hd_take 0 (_) rfl rfl (by kernel_rfl) (by kernel_rfl) (by kernel_rfl) (fun _ _ _ h => h) (fun w hw => by go_simp <;> rfl) hS ?_
    simp only [List.getElem_toArray, List.getElem_cons_succ, List.getElem_cons_zero, Act.put, List.setIfInBounds_toArray, List.set_cons_zero, List.set_cons_succ]
    refine hd_load 1 (w0.heap.size + 1 + 1 + 1) (0) (cellsB V) _ _ rfl rfl rfl (by kernel_rfl) (by kernel_rfl) (by kernel_rfl) (fun _ _ _ h => h) rfl (fun w hw => (HXV.out _ (HKW.out _ hw)).range) under_key rfl (key_info HVL.out) hS ?_
    simp only [List.getElem_toArray, List.getElem_cons_succ, List.getElem_cons_zero, Act.put, List.setIfInBounds_toArray, List.set_cons_zero, List.set_cons_succ]
    refine hd_take 2 (_) rfl rfl (by kernel_rfl) (by kernel_rfl) (by kernel_rfl) (fun _ _ _ h => h) (fun w hw => by go_simp <;> rfl) hS ?_
    simp only [List.getElem_toArray, List.getElem_cons_succ, List.getElem_cons_zero, Act.put, List.setIfInBounds_toArray, List.set_cons_zero, List.set_cons_succ]
    refine hd_sole 3 (by kernel_rfl) (op_skip (w9.drew.setRow w5.heap.size (caseC (xv.withHalf half) A' pm c' Y k d Hh k ch).toArray) rfl rfl (by rw [← z1]; simp [go_sem, execOp, y1, y2]) ⟨(below_setRow F9.out.drew (Nat.le_refl _) (caseC (xv.withHalf half) A' pm c' Y k d Hh k ch).toArray), ?_⟩)
    simp only [List.getElem_toArray, List.getElem_cons_succ, List.getElem_cons_zero, Act.put, List.setIfInBounds_toArray, List.set_cons_zero, List.set_cons_succ]
    refine hd_take 4 (_) rfl rfl (by kernel_rfl) (by kernel_rfl) (by kernel_rfl) (fun _ _ _ h => h) (fun w hw => by go_simp <;> rfl) (below_setRow F9.out.drew (Nat.le_refl _) (caseC (xv.withHalf half) A' pm c' Y k d Hh k ch).toArray) ?_
    simp only [List.getElem_toArray, List.getElem_cons_succ, List.getElem_cons_zero, Act.put, List.setIfInBounds_toArray, List.set_cons_zero, List.set_cons_succ]
    refine hd_sole 5 (by kernel_rfl) (op_skip (w9.drew.setRow w5.heap.size (caseC v2 A' pm c' Y k d Hh k ch).toArray) rfl rfl ((run_op_mid 23 _ _ rfl w5.heap.size 39 (cellsB V).toArray rfl rfl t2 (cellsB_size _ HVL.out) (cellsB_all _)).trans (by rw [← z2])) ⟨(below_setRow F9.out.drew (Nat.le_refl _) (caseC v2 A' pm c' Y k d Hh k ch).toArray), ?_⟩)
    simp only [List.getElem_toArray, List.getElem_cons_succ, List.getElem_cons_zero, Act.put, List.setIfInBounds_toArray, List.set_cons_zero, List.set_cons_succ]
    refine wpAnyH_done (by kernel_rfl) (NoPanic.normal ?_) _
    obtain ⟨w20, hw20⟩ : ∃ W, W = (w9.drew.setRow w5.heap.size (caseC v2 A' pm c' Y k d Hh k ch).toArray) := ⟨_, rfl⟩
    have Q20 : Hid (Blk w20 w5.heap.size 43 (caseC v2 A' pm c' Y k d Hh k ch).toArray) := by unfold Hid; rw [hw20]; exact QD.setRow _
    have F20 : Hid (Below w5.heap.size w5 w20) := by unfold Hid; rw [hw20]; exact (below_setRow F9.out.drew (Nat.le_refl _) (caseC v2 A' pm c' Y k d Hh k ch).toArray)
    rw [← hw20]
    clear hw20 z1 z2 y1 y2 t2 QD hS
    go_wp2_with (first | (refine wpList_load_row rfl 43 (.tmp 22) rfl w5.heap.size rfl 43 (caseC v2 A' pm c' Y k d Hh k ch).toArray (0, 0) _ Q20.out Tryz.underlying43 rfl (case_info H216.out.1 H216.out.2.1 H216.out.2.2) ?_))
    --MARK 5
    refine (HJ2.out _ _ _ (HKW.out _ F20.out) (HCX5.out _ F20.out)).mono ?_
    rintro e w21 ⟨rfl, hb21⟩
    have F21 : Hid (Below w5.heap.size w5 w21) := bel_on F20.out hb21
    clear hb21
    --MARK 8
    by_cases hv2e : ve = 2
    · subst hv2e
      go_wp2_with fail
      refine wp_region_noPanic ?_
      refine wp_region_held_drew (S := fun W' => Below w5.heap.size w5 W') (by kernel_rfl) F21.out.drew (fun hS => ?_)
      refine hd_take 0 (_) rfl rfl (by kernel_rfl) (by kernel_rfl) (by kernel_rfl) (fun _ _ _ h => h) (fun w hw => by go_simp <;> rfl) hS ?_
      simp only [List.getElem_toArray, List.getElem_cons_succ, List.getElem_cons_zero, Act.put, List.setIfInBounds_toArray, List.set_cons_zero, List.set_cons_succ]
      refine hd_take 1 (.bool true) rfl rfl (by kernel_rfl) (by kernel_rfl) (by kernel_rfl) (fun _ _ _ h => h) (fun w hw => by simp [go_sem]) hS ?_
      simp only [List.getElem_toArray, List.getElem_cons_succ, List.getElem_cons_zero, Act.put, List.setIfInBounds_toArray, List.set_cons_zero, List.set_cons_succ]
      refine hd_take 2 (_) rfl rfl (by kernel_rfl) (by kernel_rfl) (by kernel_rfl) (fun _ _ _ h => h) (fun w hw => by go_simp <;> rfl) hS ?_
      simp only [List.getElem_toArray, List.getElem_cons_succ, List.getElem_cons_zero, Act.put, List.setIfInBounds_toArray, List.set_cons_zero, List.set_cons_succ]
      refine hg_skip 3 rfl (by rfl) (by kernel_rfl) (by kernel_rfl) (by kernel_rfl) (fun _ _ _ h => h) hS ?_
      simp only [List.getElem_toArray, List.getElem_cons_succ, List.getElem_cons_zero, Act.put, List.setIfInBounds_toArray, List.set_cons_zero, List.set_cons_succ]
      refine hg_skip 4 rfl (by rfl) (by kernel_rfl) (by kernel_rfl) (by kernel_rfl) (fun _ _ _ h => h) hS ?_
      simp only [List.getElem_toArray, List.getElem_cons_succ, List.getElem_cons_zero, Act.put, List.setIfInBounds_toArray, List.set_cons_zero, List.set_cons_succ]
      refine hg_skip 5 rfl (by rfl) (by kernel_rfl) (by kernel_rfl) (by kernel_rfl) (fun _ _ _ h => h) hS ?_
      simp only [List.getElem_toArray, List.getElem_cons_succ, List.getElem_cons_zero, Act.put, List.setIfInBounds_toArray, List.set_cons_zero, List.set_cons_succ]
      refine hg_skip 6 rfl (by rfl) (by kernel_rfl) (by kernel_rfl) (by kernel_rfl) (fun _ _ _ h => h) hS ?_
      simp only [List.getElem_toArray, List.getElem_cons_succ, List.getElem_cons_zero, Act.put, List.setIfInBounds_toArray, List.set_cons_zero, List.set_cons_succ]
      refine hg_skip 7 rfl (by rfl) (by kernel_rfl) (by kernel_rfl) (by kernel_rfl) (fun _ _ _ h => h) hS ?_
      simp only [List.getElem_toArray, List.getElem_cons_succ, List.getElem_cons_zero, Act.put, List.setIfInBounds_toArray, List.set_cons_zero, List.set_cons_succ]
      refine hg_skip 8 rfl (by rfl) (by kernel_rfl) (by kernel_rfl) (by kernel_rfl) (fun _ _ _ h => h) hS ?_
      simp only [List.getElem_toArray, List.getElem_cons_succ, List.getElem_cons_zero, Act.put, List.setIfInBounds_toArray, List.set_cons_zero, List.set_cons_succ]
      refine hg_skip 9 rfl (by rfl) (by kernel_rfl) (by kernel_rfl) (by kernel_rfl) (fun _ _ _ h => h) hS ?_
      simp only [List.getElem_toArray, List.getElem_cons_succ, List.getElem_cons_zero, Act.put, List.setIfInBounds_toArray, List.set_cons_zero, List.set_cons_succ]
      refine hg_skip 10 rfl (by rfl) (by kernel_rfl) (by kernel_rfl) (by kernel_rfl) (fun _ _ _ h => h) hS ?_
      simp only [List.getElem_toArray, List.getElem_cons_succ, List.getElem_cons_zero, Act.put, List.setIfInBounds_toArray, List.set_cons_zero, List.set_cons_succ]
      refine hg_skip 11 rfl (by rfl) (by kernel_rfl) (by kernel_rfl) (by kernel_rfl) (fun _ _ _ h => h) hS ?_
      simp only [List.getElem_toArray, List.getElem_cons_succ, List.getElem_cons_zero, Act.put, List.setIfInBounds_toArray, List.set_cons_zero, List.set_cons_succ]
      refine hg_skip 12 rfl (by rfl) (by kernel_rfl) (by kernel_rfl) (by kernel_rfl) (fun _ _ _ h => h) hS ?_
      simp only [List.getElem_toArray, List.getElem_cons_succ, List.getElem_cons_zero, Act.put, List.setIfInBounds_toArray, List.set_cons_zero, List.set_cons_succ]
      refine hg_skip 13 rfl (by rfl) (by kernel_rfl) (by kernel_rfl) (by kernel_rfl) (fun _ _ _ h => h) hS ?_
      simp only [List.getElem_toArray, List.getElem_cons_succ, List.getElem_cons_zero, Act.put, List.setIfInBounds_toArray, List.set_cons_zero, List.set_cons_succ]
      refine hg_skip 14 rfl (by rfl) (by kernel_rfl) (by kernel_rfl) (by kernel_rfl) (fun _ _ _ h => h) hS ?_
      simp only [List.getElem_toArray, List.getElem_cons_succ, List.getElem_cons_zero, Act.put, List.setIfInBounds_toArray, List.set_cons_zero, List.set_cons_succ]
      refine hg_skip 15 rfl (by rfl) (by kernel_rfl) (by kernel_rfl) (by kernel_rfl) (fun _ _ _ h => h) hS ?_
      simp only [List.getElem_toArray, List.getElem_cons_succ, List.getElem_cons_zero, Act.put, List.setIfInBounds_toArray, List.set_cons_zero, List.set_cons_succ]
      refine hg_skip 16 rfl (by rfl) (by kernel_rfl) (by kernel_rfl) (by kernel_rfl) (fun _ _ _ h => h) hS ?_
      simp only [List.getElem_toArray, List.getElem_cons_succ, List.getElem_cons_zero, Act.put, List.setIfInBounds_toArray, List.set_cons_zero, List.set_cons_succ]
      refine hg_skip 17 rfl (by rfl) (by kernel_rfl) (by kernel_rfl) (by kernel_rfl) (fun _ _ _ h => h) hS ?_
      simp only [List.getElem_toArray, List.getElem_cons_succ, List.getElem_cons_zero, Act.put, List.setIfInBounds_toArray, List.set_cons_zero, List.set_cons_succ]
      refine hg_skip 18 rfl (by rfl) (by kernel_rfl) (by kernel_rfl) (by kernel_rfl) (fun _ _ _ h => h) hS ?_
      simp only [List.getElem_toArray, List.getElem_cons_succ, List.getElem_cons_zero, Act.put, List.setIfInBounds_toArray, List.set_cons_zero, List.set_cons_succ]
      refine hg_skip 19 rfl (by rfl) (by kernel_rfl) (by kernel_rfl) (by kernel_rfl) (fun _ _ _ h => h) hS ?_
      simp only [List.getElem_toArray, List.getElem_cons_succ, List.getElem_cons_zero, Act.put, List.setIfInBounds_toArray, List.set_cons_zero, List.set_cons_succ]
      refine hd_take 20 (_) rfl rfl (by kernel_rfl) (by kernel_rfl) (by kernel_rfl) (fun _ _ _ h => h) (fun w hw => by go_simp <;> rfl) hS ?_
      simp only [List.getElem_toArray, List.getElem_cons_succ, List.getElem_cons_zero, Act.put, List.setIfInBounds_toArray, List.set_cons_zero, List.set_cons_succ]
      refine wpAnyH_done (by kernel_rfl) (NoPanic.normal ?_) _
      have F22' := F21.out.drew
      obtain ⟨w22, hw22⟩ : ∃ W, W = w21.drew := ⟨_, rfl⟩
      rw [← hw22] at F22' ⊢
      have F22 := Lib.hid F22'
      clear F22' hw22 hS
      go_wp2_with fail
      go_ret
      exact ⟨by simp, bel_on b0.out (HKW.out _ F22.out)⟩
    go_wp2_with fail
    by_cases hhe : half = hv
    · subst hhe
      by_cases hvk : V = kn
      · have HVK : Hid ((V == kn) = true) := by unfold Hid; simpa using hvk
        clear hvk
        refine wp_region_noPanic ?_
        refine wp_region_held_drew (S := fun W' => Below w5.heap.size w5 W') (by kernel_rfl) F21.out.drew (fun hS => ?_)
        refine hd_take 0 (_) rfl rfl (by kernel_rfl) (by kernel_rfl) (by kernel_rfl) (fun _ _ _ h => h) (fun w hw => by go_simp <;> rfl) hS ?_
        simp only [List.getElem_toArray, List.getElem_cons_succ, List.getElem_cons_zero, Act.put, List.setIfInBounds_toArray, List.set_cons_zero, List.set_cons_succ]
        refine hd_take 1 (.bool false) rfl rfl (by kernel_rfl) (by kernel_rfl) (by kernel_rfl) (fun _ _ _ h => h) (fun w hw => by simp [go_sem, hv2e]) hS ?_
        simp only [List.getElem_toArray, List.getElem_cons_succ, List.getElem_cons_zero, Act.put, List.setIfInBounds_toArray, List.set_cons_zero, List.set_cons_succ]
        refine hd_take 2 (_) rfl rfl (by kernel_rfl) (by kernel_rfl) (by kernel_rfl) (fun _ _ _ h => h) (fun w hw => by go_simp <;> rfl) hS ?_
        simp only [List.getElem_toArray, List.getElem_cons_succ, List.getElem_cons_zero, Act.put, List.setIfInBounds_toArray, List.set_cons_zero, List.set_cons_succ]
        refine hg_take 3 (_) rfl (by rfl) (by kernel_rfl) (by kernel_rfl) (by kernel_rfl) (fun _ _ _ h => h) (fun w hw => by go_simp <;> rfl) hS ?_
        simp only [List.getElem_toArray, List.getElem_cons_succ, List.getElem_cons_zero, Act.put, List.setIfInBounds_toArray, List.set_cons_zero, List.set_cons_succ]
        refine hg_take 4 (.string (strB half)) rfl (by rfl) (by kernel_rfl) (by kernel_rfl) (by kernel_rfl) (fun _ _ _ h => h) (fun w hw => by have hx := run_string_br (HBH.out _ (HKW.out _ hw)) _ HHN.out; simp [execOp, Act.eval, Act.put, Sem.run_bind, hx]) hS ?_
        simp only [List.getElem_toArray, List.getElem_cons_succ, List.getElem_cons_zero, Act.put, List.setIfInBounds_toArray, List.set_cons_zero, List.set_cons_succ]
        refine hg_take 5 (_) rfl (by rfl) (by kernel_rfl) (by kernel_rfl) (by kernel_rfl) (fun _ _ _ h => h) (fun w hw => by go_simp <;> rfl) hS ?_
        simp only [List.getElem_toArray, List.getElem_cons_succ, List.getElem_cons_zero, Act.put, List.setIfInBounds_toArray, List.set_cons_zero, List.set_cons_succ]
        refine hg_take 6 (_) rfl (by rfl) (by kernel_rfl) (by kernel_rfl) (by kernel_rfl) (fun _ _ _ h => h) (fun w hw => by go_simp <;> rfl) hS ?_
        simp only [List.getElem_toArray, List.getElem_cons_succ, List.getElem_cons_zero, Act.put, List.setIfInBounds_toArray, List.set_cons_zero, List.set_cons_succ]
        refine hg_take 7 (_) rfl (by rfl) (by kernel_rfl) (by kernel_rfl) (by kernel_rfl) (fun _ _ _ h => h) (fun w hw => by go_simp <;> rfl) hS ?_
        simp only [List.getElem_toArray, List.getElem_cons_succ, List.getElem_cons_zero, Act.put, List.setIfInBounds_toArray, List.set_cons_zero, List.set_cons_succ]
        refine hg_take 8 (.slice Xj k xj) rfl (by rfl) (by kernel_rfl) (by kernel_rfl) (by kernel_rfl) (fun _ _ _ h => h) (fun w hw => by have hx := (HRJ.out _ (HKW.out _ hw)).1; simp [go_sem, hx]) hS ?_
        simp only [List.getElem_toArray, List.getElem_cons_succ, List.getElem_cons_zero, Act.put, List.setIfInBounds_toArray, List.set_cons_zero, List.set_cons_succ]
        refine hg_take 9 (.string (strB half)) rfl (by rfl) (by kernel_rfl) (by kernel_rfl) (by kernel_rfl) (fun _ _ _ h => h) (fun w hw => by have hx := run_string_br (HRJ.out _ (HKW.out _ hw)).2 _ HVN.out; simp [execOp, Act.eval, Act.put, Sem.run_bind, hx]) hS ?_
        simp only [List.getElem_toArray, List.getElem_cons_succ, List.getElem_cons_zero, Act.put, List.setIfInBounds_toArray, List.set_cons_zero, List.set_cons_succ]
        refine hg_take 10 (.bool true) rfl (by rfl) (by kernel_rfl) (by kernel_rfl) (by kernel_rfl) (fun _ _ _ h => h) (fun w hw => by simp [go_sem]) hS ?_
        simp only [List.getElem_toArray, List.getElem_cons_succ, List.getElem_cons_zero, Act.put, List.setIfInBounds_toArray, List.set_cons_zero, List.set_cons_succ]
        refine hg_take 11 (_) rfl (by rfl) (by kernel_rfl) (by kernel_rfl) (by kernel_rfl) (fun _ _ _ h => h) (fun w hw => by go_simp <;> rfl) hS ?_
        simp only [List.getElem_toArray, List.getElem_cons_succ, List.getElem_cons_zero, Act.put, List.setIfInBounds_toArray, List.set_cons_zero, List.set_cons_succ]
        refine hg_load 12 (w0.heap.size + 1 + 1 + 1) (0) (cellsB V) _ _ rfl rfl (by rfl) (by kernel_rfl) (by kernel_rfl) (by kernel_rfl) (fun _ _ _ h => h) rfl (fun w hw => (HXV.out _ (HKW.out _ hw)).range) under_key rfl (key_info HVL.out) hS ?_
        simp only [List.getElem_toArray, List.getElem_cons_succ, List.getElem_cons_zero, Act.put, List.setIfInBounds_toArray, List.set_cons_zero, List.set_cons_succ]
        refine hg_take 13 (_) rfl (by rfl) (by kernel_rfl) (by kernel_rfl) (by kernel_rfl) (fun _ _ _ h => h) (fun w hw => by go_simp <;> rfl) hS ?_
        simp only [List.getElem_toArray, List.getElem_cons_succ, List.getElem_cons_zero, Act.put, List.setIfInBounds_toArray, List.set_cons_zero, List.set_cons_succ]
        refine hg_take 14 (.slice (some ⟨bN, oN, none⟩) n a) rfl (by rfl) (by kernel_rfl) (by kernel_rfl) (by kernel_rfl) (fun _ _ _ h => h) (fun w hw => by have hx := (HC21.out _ hw).1; simp [go_sem, hx]) hS ?_
        simp only [List.getElem_toArray, List.getElem_cons_succ, List.getElem_cons_zero, Act.put, List.setIfInBounds_toArray, List.set_cons_zero, List.set_cons_succ]
        refine hg_take 15 (_) rfl (by rfl) (by kernel_rfl) (by kernel_rfl) (by kernel_rfl) (fun _ _ _ h => h) (fun w hw => by go_simp <;> rfl) hS ?_
        simp only [List.getElem_toArray, List.getElem_cons_succ, List.getElem_cons_zero, Act.put, List.setIfInBounds_toArray, List.set_cons_zero, List.set_cons_succ]
        refine hg_take 16 (_) rfl (by rfl) (by kernel_rfl) (by kernel_rfl) (by kernel_rfl) (fun _ _ _ h => h) (fun w hw => by go_simp <;> rfl) hS ?_
        simp only [List.getElem_toArray, List.getElem_cons_succ, List.getElem_cons_zero, Act.put, List.setIfInBounds_toArray, List.set_cons_zero, List.set_cons_succ]
        refine hg_load 17 (bN) (oN + j * 16) (cellsB kn) _ _ rfl rfl (by rfl) (by kernel_rfl) (by kernel_rfl) (by kernel_rfl) (fun _ _ _ h => h) rfl (fun w hw => (HKR.out _ hw).1) under_key rfl (key_info HKN.out) hS ?_
        simp only [List.getElem_toArray, List.getElem_cons_succ, List.getElem_cons_zero, Act.put, List.setIfInBounds_toArray, List.set_cons_zero, List.set_cons_succ]
        refine hg_take 18 (.bool true) rfl (by rfl) (by kernel_rfl) (by kernel_rfl) (by kernel_rfl) (fun _ _ _ h => h) (fun w hw => by have hx := equalIn_keys w V kn HVL HKN; rw [HVK.out] at hx; simp [go_sem, hx]) hS ?_
        simp only [List.getElem_toArray, List.getElem_cons_succ, List.getElem_cons_zero, Act.put, List.setIfInBounds_toArray, List.set_cons_zero, List.set_cons_succ]
        refine hg_take 19 (_) rfl (by rfl) (by kernel_rfl) (by kernel_rfl) (by kernel_rfl) (fun _ _ _ h => h) (fun w hw => by go_simp <;> rfl) hS ?_
        simp only [List.getElem_toArray, List.getElem_cons_succ, List.getElem_cons_zero, Act.put, List.setIfInBounds_toArray, List.set_cons_zero, List.set_cons_succ]
        refine hd_take 20 (_) rfl rfl (by kernel_rfl) (by kernel_rfl) (by kernel_rfl) (fun _ _ _ h => h) (fun w hw => by go_simp <;> rfl) hS ?_
        simp only [List.getElem_toArray, List.getElem_cons_succ, List.getElem_cons_zero, Act.put, List.setIfInBounds_toArray, List.set_cons_zero, List.set_cons_succ]
        refine wpAnyH_done (by kernel_rfl) (NoPanic.normal ?_) _
        have F22' := F21.out.drew
        obtain ⟨w22, hw22⟩ : ∃ W, W = w21.drew := ⟨_, rfl⟩
        rw [← hw22] at F22' ⊢
        have F22 := Lib.hid F22'
        clear F22' hw22 hS
        go_wp2_with fail
        go_ret
        exact ⟨by simp, bel_on b0.out (HKW.out _ F22.out)⟩
      · have HVK : Hid ((V == kn) = false) := by unfold Hid; simpa using hvk
        have HCL2 : Hid (Clash [openT half V, openT half kn]) := open_clash HVL.out HKN.out (HOTH.out hv2e) HKC0.out (fun h => hvk h.2)
        clear hvk
        refine wp_region_noPanic ?_
        refine wp_region_held_drew (S := fun W' => Below w5.heap.size w5 W') (by kernel_rfl) F21.out.drew (fun hS => ?_)
        refine hd_take 0 (_) rfl rfl (by kernel_rfl) (by kernel_rfl) (by kernel_rfl) (fun _ _ _ h => h) (fun w hw => by go_simp <;> rfl) hS ?_
        simp only [List.getElem_toArray, List.getElem_cons_succ, List.getElem_cons_zero, Act.put, List.setIfInBounds_toArray, List.set_cons_zero, List.set_cons_succ]
        refine hd_take 1 (.bool false) rfl rfl (by kernel_rfl) (by kernel_rfl) (by kernel_rfl) (fun _ _ _ h => h) (fun w hw => by simp [go_sem, hv2e]) hS ?_
        simp only [List.getElem_toArray, List.getElem_cons_succ, List.getElem_cons_zero, Act.put, List.setIfInBounds_toArray, List.set_cons_zero, List.set_cons_succ]
        refine hd_take 2 (_) rfl rfl (by kernel_rfl) (by kernel_rfl) (by kernel_rfl) (fun _ _ _ h => h) (fun w hw => by go_simp <;> rfl) hS ?_
        simp only [List.getElem_toArray, List.getElem_cons_succ, List.getElem_cons_zero, Act.put, List.setIfInBounds_toArray, List.set_cons_zero, List.set_cons_succ]
        refine hg_take 3 (_) rfl (by rfl) (by kernel_rfl) (by kernel_rfl) (by kernel_rfl) (fun _ _ _ h => h) (fun w hw => by go_simp <;> rfl) hS ?_
        simp only [List.getElem_toArray, List.getElem_cons_succ, List.getElem_cons_zero, Act.put, List.setIfInBounds_toArray, List.set_cons_zero, List.set_cons_succ]
        refine hg_take 4 (.string (strB half)) rfl (by rfl) (by kernel_rfl) (by kernel_rfl) (by kernel_rfl) (fun _ _ _ h => h) (fun w hw => by have hx := run_string_br (HBH.out _ (HKW.out _ hw)) _ HHN.out; simp [execOp, Act.eval, Act.put, Sem.run_bind, hx]) hS ?_
        simp only [List.getElem_toArray, List.getElem_cons_succ, List.getElem_cons_zero, Act.put, List.setIfInBounds_toArray, List.set_cons_zero, List.set_cons_succ]
        refine hg_take 5 (_) rfl (by rfl) (by kernel_rfl) (by kernel_rfl) (by kernel_rfl) (fun _ _ _ h => h) (fun w hw => by go_simp <;> rfl) hS ?_
        simp only [List.getElem_toArray, List.getElem_cons_succ, List.getElem_cons_zero, Act.put, List.setIfInBounds_toArray, List.set_cons_zero, List.set_cons_succ]
        refine hg_take 6 (_) rfl (by rfl) (by kernel_rfl) (by kernel_rfl) (by kernel_rfl) (fun _ _ _ h => h) (fun w hw => by go_simp <;> rfl) hS ?_
        simp only [List.getElem_toArray, List.getElem_cons_succ, List.getElem_cons_zero, Act.put, List.setIfInBounds_toArray, List.set_cons_zero, List.set_cons_succ]
        refine hg_take 7 (_) rfl (by rfl) (by kernel_rfl) (by kernel_rfl) (by kernel_rfl) (fun _ _ _ h => h) (fun w hw => by go_simp <;> rfl) hS ?_
        simp only [List.getElem_toArray, List.getElem_cons_succ, List.getElem_cons_zero, Act.put, List.setIfInBounds_toArray, List.set_cons_zero, List.set_cons_succ]
        refine hg_take 8 (.slice Xj k xj) rfl (by rfl) (by kernel_rfl) (by kernel_rfl) (by kernel_rfl) (fun _ _ _ h => h) (fun w hw => by have hx := (HRJ.out _ (HKW.out _ hw)).1; simp [go_sem, hx]) hS ?_
        simp only [List.getElem_toArray, List.getElem_cons_succ, List.getElem_cons_zero, Act.put, List.setIfInBounds_toArray, List.set_cons_zero, List.set_cons_succ]
        refine hg_take 9 (.string (strB half)) rfl (by rfl) (by kernel_rfl) (by kernel_rfl) (by kernel_rfl) (fun _ _ _ h => h) (fun w hw => by have hx := run_string_br (HRJ.out _ (HKW.out _ hw)).2 _ HVN.out; simp [execOp, Act.eval, Act.put, Sem.run_bind, hx]) hS ?_
        simp only [List.getElem_toArray, List.getElem_cons_succ, List.getElem_cons_zero, Act.put, List.setIfInBounds_toArray, List.set_cons_zero, List.set_cons_succ]
        refine hg_take 10 (.bool true) rfl (by rfl) (by kernel_rfl) (by kernel_rfl) (by kernel_rfl) (fun _ _ _ h => h) (fun w hw => by simp [go_sem]) hS ?_
        simp only [List.getElem_toArray, List.getElem_cons_succ, List.getElem_cons_zero, Act.put, List.setIfInBounds_toArray, List.set_cons_zero, List.set_cons_succ]
        refine hg_take 11 (_) rfl (by rfl) (by kernel_rfl) (by kernel_rfl) (by kernel_rfl) (fun _ _ _ h => h) (fun w hw => by go_simp <;> rfl) hS ?_
        simp only [List.getElem_toArray, List.getElem_cons_succ, List.getElem_cons_zero, Act.put, List.setIfInBounds_toArray, List.set_cons_zero, List.set_cons_succ]
        refine hg_load 12 (w0.heap.size + 1 + 1 + 1) (0) (cellsB V) _ _ rfl rfl (by rfl) (by kernel_rfl) (by kernel_rfl) (by kernel_rfl) (fun _ _ _ h => h) rfl (fun w hw => (HXV.out _ (HKW.out _ hw)).range) under_key rfl (key_info HVL.out) hS ?_
        simp only [List.getElem_toArray, List.getElem_cons_succ, List.getElem_cons_zero, Act.put, List.setIfInBounds_toArray, List.set_cons_zero, List.set_cons_succ]
        refine hg_take 13 (_) rfl (by rfl) (by kernel_rfl) (by kernel_rfl) (by kernel_rfl) (fun _ _ _ h => h) (fun w hw => by go_simp <;> rfl) hS ?_
        simp only [List.getElem_toArray, List.getElem_cons_succ, List.getElem_cons_zero, Act.put, List.setIfInBounds_toArray, List.set_cons_zero, List.set_cons_succ]
        refine hg_take 14 (.slice (some ⟨bN, oN, none⟩) n a) rfl (by rfl) (by kernel_rfl) (by kernel_rfl) (by kernel_rfl) (fun _ _ _ h => h) (fun w hw => by have hx := (HC21.out _ hw).1; simp [go_sem, hx]) hS ?_
        simp only [List.getElem_toArray, List.getElem_cons_succ, List.getElem_cons_zero, Act.put, List.setIfInBounds_toArray, List.set_cons_zero, List.set_cons_succ]
        refine hg_take 15 (_) rfl (by rfl) (by kernel_rfl) (by kernel_rfl) (by kernel_rfl) (fun _ _ _ h => h) (fun w hw => by go_simp <;> rfl) hS ?_
        simp only [List.getElem_toArray, List.getElem_cons_succ, List.getElem_cons_zero, Act.put, List.setIfInBounds_toArray, List.set_cons_zero, List.set_cons_succ]
        refine hg_take 16 (_) rfl (by rfl) (by kernel_rfl) (by kernel_rfl) (by kernel_rfl) (fun _ _ _ h => h) (fun w hw => by go_simp <;> rfl) hS ?_
        simp only [List.getElem_toArray, List.getElem_cons_succ, List.getElem_cons_zero, Act.put, List.setIfInBounds_toArray, List.set_cons_zero, List.set_cons_succ]
        refine hg_load 17 (bN) (oN + j * 16) (cellsB kn) _ _ rfl rfl (by rfl) (by kernel_rfl) (by kernel_rfl) (by kernel_rfl) (fun _ _ _ h => h) rfl (fun w hw => (HKR.out _ hw).1) under_key rfl (key_info HKN.out) hS ?_
        simp only [List.getElem_toArray, List.getElem_cons_succ, List.getElem_cons_zero, Act.put, List.setIfInBounds_toArray, List.set_cons_zero, List.set_cons_succ]
        refine hg_take 18 (.bool false) rfl (by rfl) (by kernel_rfl) (by kernel_rfl) (by kernel_rfl) (fun _ _ _ h => h) (fun w hw => by have hx := equalIn_keys w V kn HVL HKN; rw [HVK.out] at hx; simp [go_sem, hx]) hS ?_
        simp only [List.getElem_toArray, List.getElem_cons_succ, List.getElem_cons_zero, Act.put, List.setIfInBounds_toArray, List.set_cons_zero, List.set_cons_succ]
        refine hg_take 19 (_) rfl (by rfl) (by kernel_rfl) (by kernel_rfl) (by kernel_rfl) (fun _ _ _ h => h) (fun w hw => by go_simp <;> rfl) hS ?_
        simp only [List.getElem_toArray, List.getElem_cons_succ, List.getElem_cons_zero, Act.put, List.setIfInBounds_toArray, List.set_cons_zero, List.set_cons_succ]
        refine hd_take 20 (_) rfl rfl (by kernel_rfl) (by kernel_rfl) (by kernel_rfl) (fun _ _ _ h => h) (fun w hw => by go_simp <;> rfl) hS ?_
        simp only [List.getElem_toArray, List.getElem_cons_succ, List.getElem_cons_zero, Act.put, List.setIfInBounds_toArray, List.set_cons_zero, List.set_cons_succ]
        refine wpAnyH_done (by kernel_rfl) (NoPanic.normal ?_) _
        have F22' := F21.out.drew
        obtain ⟨w22, hw22⟩ : ∃ W, W = w21.drew := ⟨_, rfl⟩
        rw [← hw22] at F22' ⊢
        have F22 := Lib.hid F22'
        clear F22' hw22 hS
        have HSL : Hid ((([2] : List UInt8) ++ V).length = 17) := by unfold Hid; simp [HVL.out]
        have HTL : Hid ((([2] : List UInt8) ++ kn).length = 17) := by unfold Hid; simp [HKN.out]
        have HS1 : Hid ((([2] : List UInt8) ++ V ++ half).length = 17 + k) := by unfold Hid; simp [HVL.out, HHN.out]; omega
        have HT1 : Hid ((([2] : List UInt8) ++ kn ++ half).length = 17 + k) := by unfold Hid; simp [HKN.out, HVN.out]; omega
        go_wp2_with (first | (at_builtin; (first | rw [show (#[.int .u8 2] : Array Value) = (cellsB [2]).toArray from rfl] | skip); refine wpList_append_bytes _ rfl (.tmp 180) (.tmp 181) rfl w22.heap.size (some ⟨w22.heap.size, 0, none⟩) 1 1 [2] rfl rfl (OB.lit _ w22 [2] (Nat.le_refl _) (by simp) rfl) (some ⟨w0.heap.size + 1 + 1 + 1, 0, none⟩) 16 16 V HVL.out rfl (((HXV.out _ (HKW.out _ F22.out)).below' (alloc_bel w22 _)).src HVL.out) (by omega) (by simp) ?_; intro A6 c6 w23 hon hbl hg; have O6 := Lib.hid hon; have E6 := Lib.hid ((alloc_bel w22 _).trans hbl); clear hon hbl hg) | (at_builtin; refine wpList_append_bytes _ rfl (.tmp 182) (.tmp 183) rfl w22.heap.size A6 17 c6 ([2] ++ V) HSL.out rfl O6.out Hh k ch half HHN.out rfl ((HBH.out _ (HKW.out _ (bel_on F22.out E6.out))).src HHN.out) (by omega) E6.out.size ?_; intro A7 c7 w24 hon hbl hg; have O7 := Lib.hid hon; have F24 := Lib.hid (bel_on F22.out (E6.out.trans hbl)); clear hon hbl hg))
        --MARK 6
        refine wp_region_noPanic ?_
        refine wp_region_held_drew (S := fun W' => Below w5.heap.size w5 W') (by kernel_rfl) F24.out.drew (fun hS => ?_)
        refine hd_take 1 (_) rfl rfl (by kernel_rfl) (by kernel_rfl) (by kernel_rfl) (fun _ _ _ h => h) (fun w hw => by go_simp <;> rfl) hS ?_
        simp only [List.getElem_toArray, List.getElem_cons_succ, List.getElem_cons_zero, Act.put, List.setIfInBounds_toArray, List.set_cons_zero, List.set_cons_succ]
        refine hd_take 2 (.slice (some ⟨bN, oN, none⟩) n a) rfl rfl (by kernel_rfl) (by kernel_rfl) (by kernel_rfl) (fun _ _ _ h => h) (fun w hw => by have hx := (HC21.out _ hw).1; simp [go_sem, hx]) hS ?_
        simp only [List.getElem_toArray, List.getElem_cons_succ, List.getElem_cons_zero, Act.put, List.setIfInBounds_toArray, List.set_cons_zero, List.set_cons_succ]
        refine hd_take 3 (_) rfl rfl (by kernel_rfl) (by kernel_rfl) (by kernel_rfl) (fun _ _ _ h => h) (fun w hw => by go_simp <;> rfl) hS ?_
        simp only [List.getElem_toArray, List.getElem_cons_succ, List.getElem_cons_zero, Act.put, List.setIfInBounds_toArray, List.set_cons_zero, List.set_cons_succ]
        refine hd_take 4 (_) rfl rfl (by kernel_rfl) (by kernel_rfl) (by kernel_rfl) (fun _ _ _ h => h) (fun w hw => by go_simp <;> rfl) hS ?_
        simp only [List.getElem_toArray, List.getElem_cons_succ, List.getElem_cons_zero, Act.put, List.setIfInBounds_toArray, List.set_cons_zero, List.set_cons_succ]
        refine hd_take 5 (_) rfl rfl (by kernel_rfl) (by kernel_rfl) (by kernel_rfl) (fun _ _ _ h => h) (fun w hw => by go_simp <;> rfl) hS ?_
        simp only [List.getElem_toArray, List.getElem_cons_succ, List.getElem_cons_zero, Act.put, List.setIfInBounds_toArray, List.set_cons_zero, List.set_cons_succ]
        refine hd_take 7 (_) rfl rfl (by kernel_rfl) (by kernel_rfl) (by kernel_rfl) (fun _ _ _ h => h) (fun w hw => by go_simp <;> rfl) hS ?_
        simp only [List.getElem_toArray, List.getElem_cons_succ, List.getElem_cons_zero, Act.put, List.setIfInBounds_toArray, List.set_cons_zero, List.set_cons_succ]
        refine hd_take 8 (_) rfl rfl (by kernel_rfl) (by kernel_rfl) (by kernel_rfl) (fun _ _ _ h => h) (fun w hw => by go_simp <;> rfl) hS ?_
        simp only [List.getElem_toArray, List.getElem_cons_succ, List.getElem_cons_zero, Act.put, List.setIfInBounds_toArray, List.set_cons_zero, List.set_cons_succ]
        refine hd_take 9 (_) rfl rfl (by kernel_rfl) (by kernel_rfl) (by kernel_rfl) (fun _ _ _ h => h) (fun w hw => by go_simp <;> rfl) hS ?_
        simp only [List.getElem_toArray, List.getElem_cons_succ, List.getElem_cons_zero, Act.put, List.setIfInBounds_toArray, List.set_cons_zero, List.set_cons_succ]
        refine hd_take 10 (.slice Xj k xj) rfl rfl (by kernel_rfl) (by kernel_rfl) (by kernel_rfl) (fun _ _ _ h => h) (fun w hw => by have hx := (HRJ.out _ (HKW.out _ hw)).1; simp [go_sem, hx]) hS ?_
        simp only [List.getElem_toArray, List.getElem_cons_succ, List.getElem_cons_zero, Act.put, List.setIfInBounds_toArray, List.set_cons_zero, List.set_cons_succ]
        --MARK 7
        have d0 : Below w24.heap.size w24 (w24.drew.alloc (.cells (cellsB [2]).toArray 5)) := bel_on (Below.refl _ _).drew (alloc_bel w24.drew _)
        refine hd_sole 0 (by kernel_rfl) (op_run (.slice (some ⟨w24.heap.size, 0, none⟩) 1 1) (w24.drew.alloc (.cells (cellsB [2]).toArray 5)) rfl rfl (by go_simp <;> rfl) ⟨bel_on F24.out d0, ?_⟩)
        simp only [List.getElem_toArray, List.getElem_cons_succ, List.getElem_cons_zero, Act.put, List.setIfInBounds_toArray, List.set_cons_zero, List.set_cons_succ]
        refine hd_appB 6 (.tmp 185) (.tmp 190) rfl rfl rfl (by kernel_rfl) w24.heap.size (some ⟨w24.heap.size, 0, none⟩) 1 1 [2] rfl rfl (OB.lit _ w24.drew [2] (Nat.le_refl _) (by simp) rfl) (some ⟨bN, oN + j * 16, none⟩) 16 16 kn HKN.out rfl (range_src (HKR.out _ (bel_on F24.out d0)).1 HKN.out) (by omega) d0.size ?_
        intro A8 c8 w26 hon8 hbl8
        have d1 := d0.trans hbl8
        refine ⟨bel_on F24.out d1, ?_⟩
        simp only [List.getElem_toArray, List.getElem_cons_succ, List.getElem_cons_zero, Act.put, List.setIfInBounds_toArray, List.set_cons_zero, List.set_cons_succ]
        refine hd_appB 11 (.tmp 191) (.tmp 195) rfl rfl rfl (by kernel_rfl) w24.heap.size A8 17 c8 ([2] ++ kn) HTL.out rfl hon8 Xj k xj half HVN.out rfl ((HRJ.out _ (HKW.out _ (bel_on F24.out d1))).2.src HVN.out) (by omega) d1.size ?_
        intro A9 c9 w27 hon9 hbl9
        have d2 := d1.trans hbl9
        have F27 : Hid (Below w5.heap.size w5 w27) := bel_on F24.out d2
        refine ⟨F27.out, ?_⟩
        simp only [List.getElem_toArray, List.getElem_cons_succ, List.getElem_cons_zero, Act.put, List.setIfInBounds_toArray, List.set_cons_zero, List.set_cons_succ]
        refine hd_take 12 (_) rfl rfl (by kernel_rfl) (by kernel_rfl) (by kernel_rfl) (fun _ _ _ h => h) (fun w hw => by go_simp <;> rfl) F27.out ?_
        simp only [List.getElem_toArray, List.getElem_cons_succ, List.getElem_cons_zero, Act.put, List.setIfInBounds_toArray, List.set_cons_zero, List.set_cons_succ]
        refine wpAnyH_done (by kernel_rfl) (NoPanic.normal ?_) _
        have R1 : Hid (BR w27 A7 c7 ([2] ++ V ++ half)) := (O7.out.below d2).br (by rw [HS1.out]; omega)
        have R2 : Hid (BR w27 A9 c9 ([2] ++ kn ++ half)) := hon9.br (by rw [HT1.out]; omega)
        have HCC := Lib.hid (clash2_any A7 c7 ([2] ++ V ++ half) A9 c9 ([2] ++ kn ++ half) w27 HS1.out HT1.out R1.out R2.out (by omega) (by omega) HCL2.out)
        clear d0 d1 d2 hbl8 hbl9 hon8 hon9 hS
        go_wp2_with (first | (go_at_call 14; (with_reducible refine HCC.out.mono ?_); rintro e w28 ⟨rfl, hb28⟩; have F28 := Lib.hid (bel_on F27.out hb28); clear hb28))
        go_ret
        exact ⟨by simp, bel_on b0.out (HKW.out _ F28.out)⟩
    · have HSNE : Hid (¬ strB half = strB hv ∧ ¬ (strB half).toList = (strB hv).toList) := str_ne hhe
      have HCL2 : Hid (Clash [openT half V, openT hv kn]) := open_clash HVL.out HKN.out (HOTH.out hv2e) HKC0.out (fun h => hhe h.1)
      clear hhe
      refine wp_region_noPanic ?_
      refine wp_region_held_drew (S := fun W' => Below w5.heap.size w5 W') (by kernel_rfl) F21.out.drew (fun hS => ?_)
      refine hd_take 0 (_) rfl rfl (by kernel_rfl) (by kernel_rfl) (by kernel_rfl) (fun _ _ _ h => h) (fun w hw => by go_simp <;> rfl) hS ?_
      simp only [List.getElem_toArray, List.getElem_cons_succ, List.getElem_cons_zero, Act.put, List.setIfInBounds_toArray, List.set_cons_zero, List.set_cons_succ]
      refine hd_take 1 (.bool false) rfl rfl (by kernel_rfl) (by kernel_rfl) (by kernel_rfl) (fun _ _ _ h => h) (fun w hw => by simp [go_sem, hv2e]) hS ?_
      simp only [List.getElem_toArray, List.getElem_cons_succ, List.getElem_cons_zero, Act.put, List.setIfInBounds_toArray, List.set_cons_zero, List.set_cons_succ]
      refine hd_take 2 (_) rfl rfl (by kernel_rfl) (by kernel_rfl) (by kernel_rfl) (fun _ _ _ h => h) (fun w hw => by go_simp <;> rfl) hS ?_
      simp only [List.getElem_toArray, List.getElem_cons_succ, List.getElem_cons_zero, Act.put, List.setIfInBounds_toArray, List.set_cons_zero, List.set_cons_succ]
      refine hg_take 3 (_) rfl (by rfl) (by kernel_rfl) (by kernel_rfl) (by kernel_rfl) (fun _ _ _ h => h) (fun w hw => by go_simp <;> rfl) hS ?_
      simp only [List.getElem_toArray, List.getElem_cons_succ, List.getElem_cons_zero, Act.put, List.setIfInBounds_toArray, List.set_cons_zero, List.set_cons_succ]
      refine hg_take 4 (.string (strB half)) rfl (by rfl) (by kernel_rfl) (by kernel_rfl) (by kernel_rfl) (fun _ _ _ h => h) (fun w hw => by have hx := run_string_br (HBH.out _ (HKW.out _ hw)) _ HHN.out; simp [execOp, Act.eval, Act.put, Sem.run_bind, hx]) hS ?_
      simp only [List.getElem_toArray, List.getElem_cons_succ, List.getElem_cons_zero, Act.put, List.setIfInBounds_toArray, List.set_cons_zero, List.set_cons_succ]
      refine hg_take 5 (_) rfl (by rfl) (by kernel_rfl) (by kernel_rfl) (by kernel_rfl) (fun _ _ _ h => h) (fun w hw => by go_simp <;> rfl) hS ?_
      simp only [List.getElem_toArray, List.getElem_cons_succ, List.getElem_cons_zero, Act.put, List.setIfInBounds_toArray, List.set_cons_zero, List.set_cons_succ]
      refine hg_take 6 (_) rfl (by rfl) (by kernel_rfl) (by kernel_rfl) (by kernel_rfl) (fun _ _ _ h => h) (fun w hw => by go_simp <;> rfl) hS ?_
      simp only [List.getElem_toArray, List.getElem_cons_succ, List.getElem_cons_zero, Act.put, List.setIfInBounds_toArray, List.set_cons_zero, List.set_cons_succ]
      refine hg_take 7 (_) rfl (by rfl) (by kernel_rfl) (by kernel_rfl) (by kernel_rfl) (fun _ _ _ h => h) (fun w hw => by go_simp <;> rfl) hS ?_
      simp only [List.getElem_toArray, List.getElem_cons_succ, List.getElem_cons_zero, Act.put, List.setIfInBounds_toArray, List.set_cons_zero, List.set_cons_succ]
      refine hg_take 8 (.slice Xj k xj) rfl (by rfl) (by kernel_rfl) (by kernel_rfl) (by kernel_rfl) (fun _ _ _ h => h) (fun w hw => by have hx := (HRJ.out _ (HKW.out _ hw)).1; simp [go_sem, hx]) hS ?_
      simp only [List.getElem_toArray, List.getElem_cons_succ, List.getElem_cons_zero, Act.put, List.setIfInBounds_toArray, List.set_cons_zero, List.set_cons_succ]
      refine hg_take 9 (.string (strB hv)) rfl (by rfl) (by kernel_rfl) (by kernel_rfl) (by kernel_rfl) (fun _ _ _ h => h) (fun w hw => by have hx := run_string_br (HRJ.out _ (HKW.out _ hw)).2 _ HVN.out; simp [execOp, Act.eval, Act.put, Sem.run_bind, hx]) hS ?_
      simp only [List.getElem_toArray, List.getElem_cons_succ, List.getElem_cons_zero, Act.put, List.setIfInBounds_toArray, List.set_cons_zero, List.set_cons_succ]
      refine hg_take 10 (.bool false) rfl (by rfl) (by kernel_rfl) (by kernel_rfl) (by kernel_rfl) (fun _ _ _ h => h) (fun w hw => by simp [go_sem, HSNE.out.1, HSNE.out.2]) hS ?_
      simp only [List.getElem_toArray, List.getElem_cons_succ, List.getElem_cons_zero, Act.put, List.setIfInBounds_toArray, List.set_cons_zero, List.set_cons_succ]
      refine hg_take 11 (_) rfl (by rfl) (by kernel_rfl) (by kernel_rfl) (by kernel_rfl) (fun _ _ _ h => h) (fun w hw => by go_simp <;> rfl) hS ?_
      simp only [List.getElem_toArray, List.getElem_cons_succ, List.getElem_cons_zero, Act.put, List.setIfInBounds_toArray, List.set_cons_zero, List.set_cons_succ]
      refine hg_skip 12 rfl (by rfl) (by kernel_rfl) (by kernel_rfl) (by kernel_rfl) (fun _ _ _ h => h) hS ?_
      simp only [List.getElem_toArray, List.getElem_cons_succ, List.getElem_cons_zero, Act.put, List.setIfInBounds_toArray, List.set_cons_zero, List.set_cons_succ]
      refine hg_skip 13 rfl (by rfl) (by kernel_rfl) (by kernel_rfl) (by kernel_rfl) (fun _ _ _ h => h) hS ?_
      simp only [List.getElem_toArray, List.getElem_cons_succ, List.getElem_cons_zero, Act.put, List.setIfInBounds_toArray, List.set_cons_zero, List.set_cons_succ]
      refine hg_skip 14 rfl (by rfl) (by kernel_rfl) (by kernel_rfl) (by kernel_rfl) (fun _ _ _ h => h) hS ?_
      simp only [List.getElem_toArray, List.getElem_cons_succ, List.getElem_cons_zero, Act.put, List.setIfInBounds_toArray, List.set_cons_zero, List.set_cons_succ]
      refine hg_skip 15 rfl (by rfl) (by kernel_rfl) (by kernel_rfl) (by kernel_rfl) (fun _ _ _ h => h) hS ?_
      simp only [List.getElem_toArray, List.getElem_cons_succ, List.getElem_cons_zero, Act.put, List.setIfInBounds_toArray, List.set_cons_zero, List.set_cons_succ]
      refine hg_skip 16 rfl (by rfl) (by kernel_rfl) (by kernel_rfl) (by kernel_rfl) (fun _ _ _ h => h) hS ?_
      simp only [List.getElem_toArray, List.getElem_cons_succ, List.getElem_cons_zero, Act.put, List.setIfInBounds_toArray, List.set_cons_zero, List.set_cons_succ]
      refine hg_skip 17 rfl (by rfl) (by kernel_rfl) (by kernel_rfl) (by kernel_rfl) (fun _ _ _ h => h) hS ?_
      simp only [List.getElem_toArray, List.getElem_cons_succ, List.getElem_cons_zero, Act.put, List.setIfInBounds_toArray, List.set_cons_zero, List.set_cons_succ]
      refine hg_skip 18 rfl (by rfl) (by kernel_rfl) (by kernel_rfl) (by kernel_rfl) (fun _ _ _ h => h) hS ?_
      simp only [List.getElem_toArray, List.getElem_cons_succ, List.getElem_cons_zero, Act.put, List.setIfInBounds_toArray, List.set_cons_zero, List.set_cons_succ]
      refine hg_take 19 (_) rfl (by rfl) (by kernel_rfl) (by kernel_rfl) (by kernel_rfl) (fun _ _ _ h => h) (fun w hw => by go_simp <;> rfl) hS ?_
      simp only [List.getElem_toArray, List.getElem_cons_succ, List.getElem_cons_zero, Act.put, List.setIfInBounds_toArray, List.set_cons_zero, List.set_cons_succ]
      refine hd_take 20 (_) rfl rfl (by kernel_rfl) (by kernel_rfl) (by kernel_rfl) (fun _ _ _ h => h) (fun w hw => by go_simp <;> rfl) hS ?_
      simp only [List.getElem_toArray, List.getElem_cons_succ, List.getElem_cons_zero, Act.put, List.setIfInBounds_toArray, List.set_cons_zero, List.set_cons_succ]
      refine wpAnyH_done (by kernel_rfl) (NoPanic.normal ?_) _
      have F22' := F21.out.drew
      obtain ⟨w22, hw22⟩ : ∃ W, W = w21.drew := ⟨_, rfl⟩
      rw [← hw22] at F22' ⊢
      have F22 := Lib.hid F22'
      clear F22' hw22 hS
      have HSL : Hid ((([2] : List UInt8) ++ V).length = 17) := by unfold Hid; simp [HVL.out]
      have HTL : Hid ((([2] : List UInt8) ++ kn).length = 17) := by unfold Hid; simp [HKN.out]
      have HS1 : Hid ((([2] : List UInt8) ++ V ++ half).length = 17 + k) := by unfold Hid; simp [HVL.out, HHN.out]; omega
      have HT1 : Hid ((([2] : List UInt8) ++ kn ++ hv).length = 17 + k) := by unfold Hid; simp [HKN.out, HVN.out]; omega
      go_wp2_with (first | (at_builtin; (first | rw [show (#[.int .u8 2] : Array Value) = (cellsB [2]).toArray from rfl] | skip); refine wpList_append_bytes _ rfl (.tmp 180) (.tmp 181) rfl w22.heap.size (some ⟨w22.heap.size, 0, none⟩) 1 1 [2] rfl rfl (OB.lit _ w22 [2] (Nat.le_refl _) (by simp) rfl) (some ⟨w0.heap.size + 1 + 1 + 1, 0, none⟩) 16 16 V HVL.out rfl (((HXV.out _ (HKW.out _ F22.out)).below' (alloc_bel w22 _)).src HVL.out) (by omega) (by simp) ?_; intro A6 c6 w23 hon hbl hg; have O6 := Lib.hid hon; have E6 := Lib.hid ((alloc_bel w22 _).trans hbl); clear hon hbl hg) | (at_builtin; refine wpList_append_bytes _ rfl (.tmp 182) (.tmp 183) rfl w22.heap.size A6 17 c6 ([2] ++ V) HSL.out rfl O6.out Hh k ch half HHN.out rfl ((HBH.out _ (HKW.out _ (bel_on F22.out E6.out))).src HHN.out) (by omega) E6.out.size ?_; intro A7 c7 w24 hon hbl hg; have O7 := Lib.hid hon; have F24 := Lib.hid (bel_on F22.out (E6.out.trans hbl)); clear hon hbl hg))
      --MARK 6
      refine wp_region_noPanic ?_
      refine wp_region_held_drew (S := fun W' => Below w5.heap.size w5 W') (by kernel_rfl) F24.out.drew (fun hS => ?_)
      refine hd_take 1 (_) rfl rfl (by kernel_rfl) (by kernel_rfl) (by kernel_rfl) (fun _ _ _ h => h) (fun w hw => by go_simp <;> rfl) hS ?_
      simp only [List.getElem_toArray, List.getElem_cons_succ, List.getElem_cons_zero, Act.put, List.setIfInBounds_toArray, List.set_cons_zero, List.set_cons_succ]
      refine hd_take 2 (.slice (some ⟨bN, oN, none⟩) n a) rfl rfl (by kernel_rfl) (by kernel_rfl) (by kernel_rfl) (fun _ _ _ h => h) (fun w hw => by have hx := (HC21.out _ hw).1; simp [go_sem, hx]) hS ?_
      simp only [List.getElem_toArray, List.getElem_cons_succ, List.getElem_cons_zero, Act.put, List.setIfInBounds_toArray, List.set_cons_zero, List.set_cons_succ]
      refine hd_take 3 (_) rfl rfl (by kernel_rfl) (by kernel_rfl) (by kernel_rfl) (fun _ _ _ h => h) (fun w hw => by go_simp <;> rfl) hS ?_
      simp only [List.getElem_toArray, List.getElem_cons_succ, List.getElem_cons_zero, Act.put, List.setIfInBounds_toArray, List.set_cons_zero, List.set_cons_succ]
      refine hd_take 4 (_) rfl rfl (by kernel_rfl) (by kernel_rfl) (by kernel_rfl) (fun _ _ _ h => h) (fun w hw => by go_simp <;> rfl) hS ?_
      simp only [List.getElem_toArray, List.getElem_cons_succ, List.getElem_cons_zero, Act.put, List.setIfInBounds_toArray, List.set_cons_zero, List.set_cons_succ]
      refine hd_take 5 (_) rfl rfl (by kernel_rfl) (by kernel_rfl) (by kernel_rfl) (fun _ _ _ h => h) (fun w hw => by go_simp <;> rfl) hS ?_
      simp only [List.getElem_toArray, List.getElem_cons_succ, List.getElem_cons_zero, Act.put, List.setIfInBounds_toArray, List.set_cons_zero, List.set_cons_succ]
      refine hd_take 7 (_) rfl rfl (by kernel_rfl) (by kernel_rfl) (by kernel_rfl) (fun _ _ _ h => h) (fun w hw => by go_simp <;> rfl) hS ?_
      simp only [List.getElem_toArray, List.getElem_cons_succ, List.getElem_cons_zero, Act.put, List.setIfInBounds_toArray, List.set_cons_zero, List.set_cons_succ]
      refine hd_take 8 (_) rfl rfl (by kernel_rfl) (by kernel_rfl) (by kernel_rfl) (fun _ _ _ h => h) (fun w hw => by go_simp <;> rfl) hS ?_
      simp only [List.getElem_toArray, List.getElem_cons_succ, List.getElem_cons_zero, Act.put, List.setIfInBounds_toArray, List.set_cons_zero, List.set_cons_succ]
      refine hd_take 9 (_) rfl rfl (by kernel_rfl) (by kernel_rfl) (by kernel_rfl) (fun _ _ _ h => h) (fun w hw => by go_simp <;> rfl) hS ?_
      simp only [List.getElem_toArray, List.getElem_cons_succ, List.getElem_cons_zero, Act.put, List.setIfInBounds_toArray, List.set_cons_zero, List.set_cons_succ]
      refine hd_take 10 (.slice Xj k xj) rfl rfl (by kernel_rfl) (by kernel_rfl) (by kernel_rfl) (fun _ _ _ h => h) (fun w hw => by have hx := (HRJ.out _ (HKW.out _ hw)).1; simp [go_sem, hx]) hS ?_
      simp only [List.getElem_toArray, List.getElem_cons_succ, List.getElem_cons_zero, Act.put, List.setIfInBounds_toArray, List.set_cons_zero, List.set_cons_succ]
      --MARK 7
      have d0 : Below w24.heap.size w24 (w24.drew.alloc (.cells (cellsB [2]).toArray 5)) := bel_on (Below.refl _ _).drew (alloc_bel w24.drew _)
      refine hd_sole 0 (by kernel_rfl) (op_run (.slice (some ⟨w24.heap.size, 0, none⟩) 1 1) (w24.drew.alloc (.cells (cellsB [2]).toArray 5)) rfl rfl (by go_simp <;> rfl) ⟨bel_on F24.out d0, ?_⟩)
      simp only [List.getElem_toArray, List.getElem_cons_succ, List.getElem_cons_zero, Act.put, List.setIfInBounds_toArray, List.set_cons_zero, List.set_cons_succ]
      refine hd_appB 6 (.tmp 185) (.tmp 190) rfl rfl rfl (by kernel_rfl) w24.heap.size (some ⟨w24.heap.size, 0, none⟩) 1 1 [2] rfl rfl (OB.lit _ w24.drew [2] (Nat.le_refl _) (by simp) rfl) (some ⟨bN, oN + j * 16, none⟩) 16 16 kn HKN.out rfl (range_src (HKR.out _ (bel_on F24.out d0)).1 HKN.out) (by omega) d0.size ?_
      intro A8 c8 w26 hon8 hbl8
      have d1 := d0.trans hbl8
      refine ⟨bel_on F24.out d1, ?_⟩
      simp only [List.getElem_toArray, List.getElem_cons_succ, List.getElem_cons_zero, Act.put, List.setIfInBounds_toArray, List.set_cons_zero, List.set_cons_succ]
      refine hd_appB 11 (.tmp 191) (.tmp 195) rfl rfl rfl (by kernel_rfl) w24.heap.size A8 17 c8 ([2] ++ kn) HTL.out rfl hon8 Xj k xj hv HVN.out rfl ((HRJ.out _ (HKW.out _ (bel_on F24.out d1))).2.src HVN.out) (by omega) d1.size ?_
      intro A9 c9 w27 hon9 hbl9
      have d2 := d1.trans hbl9
      have F27 : Hid (Below w5.heap.size w5 w27) := bel_on F24.out d2
      refine ⟨F27.out, ?_⟩
      simp only [List.getElem_toArray, List.getElem_cons_succ, List.getElem_cons_zero, Act.put, List.setIfInBounds_toArray, List.set_cons_zero, List.set_cons_succ]
      refine hd_take 12 (_) rfl rfl (by kernel_rfl) (by kernel_rfl) (by kernel_rfl) (fun _ _ _ h => h) (fun w hw => by go_simp <;> rfl) F27.out ?_
      simp only [List.getElem_toArray, List.getElem_cons_succ, List.getElem_cons_zero, Act.put, List.setIfInBounds_toArray, List.set_cons_zero, List.set_cons_succ]
      refine wpAnyH_done (by kernel_rfl) (NoPanic.normal ?_) _
      have R1 : Hid (BR w27 A7 c7 ([2] ++ V ++ half)) := (O7.out.below d2).br (by rw [HS1.out]; omega)
      have R2 : Hid (BR w27 A9 c9 ([2] ++ kn ++ hv)) := hon9.br (by rw [HT1.out]; omega)
      have HCC := Lib.hid (clash2_any A7 c7 ([2] ++ V ++ half) A9 c9 ([2] ++ kn ++ hv) w27 HS1.out HT1.out R1.out R2.out (by omega) (by omega) HCL2.out)
      clear d0 d1 d2 hbl8 hbl9 hon8 hon9 hS
      go_wp2_with (first | (go_at_call 14; (with_reducible refine HCC.out.mono ?_); rintro e w28 ⟨rfl, hb28⟩; have F28 := Lib.hid (bel_on F27.out hb28); clear hb28))
      go_ret
      exact ⟨by simp, bel_on b0.out (HKW.out _ F28.out)⟩
  · have HXY : Hid ((O == kc) = false) := by unfold Hid; simpa using fun h => hoc h.symm
    rw [HXY.out] at hxe
    have hne1 : ¬ O = kc := fun h => hoc h.symm
    have hne2 : (O == kc) = false := HXY.out
    have c22 := (HC21.out _ F9.out).2
    go_wp2_with (first | ((first | simp only [tv1, tv2, tv3, tv4, tv5, Bool.not_false] | skip); refine BigFrame.wpList_want (by rfl) fun K' hK' => wp_load_row 23 (.tmp 13) rfl (w0.heap.size + 1 + 1) rfl 23 (cellsB O).toArray (0, 0) _ (HXO.out _ (HKW.out _ F9.out)) under_key rfl (cellsB_size _ HOL.out) (hK' _ _ ?_)) | (refine BigFrame.wpList_want (by rfl) fun K' hK' => wp_load_mid 23 (.tmp 117) rfl (w5.heap.size) 16 rfl (cellsB kc) _ RC9.out under_key rfl (key_info HKC.out) (hK' _ _ ?_)))
    --MARK 10
    refine (HTX.out _ _ _ (HKR.out _ F9.out).2).mono ?_
    rintro e w10 ⟨⟨T1, t1, q1, rfl, hq1, ho1⟩, hb10⟩
    have S10 : Hid (Below w9.heap.size w9 w10) := hb10
    have E10 : Hid (Below w6.heap.size w6 w10) := bel_on E9.out hb10
    have F10 : Hid (Below w5.heap.size w5 w10) := bel_on F9.out hb10
    have RP10 : Hid (w10.rangeAt w5.heap.size 32 [.int .i64 (n : Int), .int .i64 (j : Int), .slice A' pm c']) := by
      have := (box_of (Q6.out.below' E10.out) hXV.1 hXV.2.1 hXV.2.2).pr
      rw [HXF.out.2.2.1, HXF.out.2.2.2] at this
      exact this
    obtain ⟨l1, hl1⟩ : ∃ q, q1.length = q := ⟨_, rfl⟩
    have HLL1 : Hid (l1 ≤ 1000) := by unfold Hid; rw [← hl1, ← List.length_map (f := BRow.l), hq1]; exact HLT.out
    have O10 := Lib.hid ho1
    have HQ1 := Lib.hid hq1
    have HL1 := Lib.hid hl1
    have Z10 : Hid (w9.heap.size ≤ w10.heap.size) := hb10.size
    rw [hl1]
    clear c22 hxe hb10 ho1 hq1 hl1
    go_wp2_with (first | (refine wpList_load_row rfl 23 (.tmp 13) rfl (w0.heap.size + 1 + 1) rfl 23 (cellsB O).toArray (0, 0) _ (HXO.out _ (HKW.out _ F10.out)) under_key rfl (cellsB_size _ HOL.out) ?_) | (refine wpList_load_mid rfl 41 (.tmp 129) rfl w5.heap.size 32 rfl [.int .i64 (n : Int), .int .i64 (j : Int), .slice A' pm c'] _ RP10.out Tryz.underlying41 rfl (by kernel_rfl) ?_))
    --MARK 11
    refine (HPT.out _ _ _ (HXC.out _ _ _ (HCX5.out _ F10.out))).mono ?_
    rintro e w11 ⟨⟨T2, t2, q2, rfl, hq2, ho2⟩, hb11⟩
    have S11 : Hid (Below w9.heap.size w9 w11) := bel_on S10.out hb11
    have E11 : Hid (Below w6.heap.size w6 w11) := bel_on E10.out hb11
    have F11 : Hid (Below w5.heap.size w5 w11) := bel_on F10.out hb11
    obtain ⟨l2, hl2⟩ : ∃ q, q2.length = q := ⟨_, rfl⟩
    have HLL2 : Hid (l2 ≤ 1000) := by unfold Hid; rw [← hl2, ← List.length_map (f := BRow.l), hq2]; exact HLP.out
    have O11 := Lib.hid (O10.out.below hb11)
    have O12 := Lib.hid ho2
    have HL2 := Lib.hid hl2
    have Z11 : Hid (w10.heap.size ≤ w11.heap.size) := hb11.size
    have HCLC : Hid (∀ W A3 c3, RR W A3 c3 (q1 ++ q2) → Calls Tryz.prog 14 #[.slice A3 (l1 + l2) c3] W fun e w' => e = .returned (.bool true) ∧ Below W.heap.size W w') := fun W A3 c3 h => clashing_any A3 c3 (q1 ++ q2) W (by rw [List.length_append, HL1.out, hl2]) h (by have := HLL1.out; have := HLL2.out; omega) (fun r hr => by
      rcases List.mem_append.1 hr with hr | hr
      · have := (O10.out.2 r hr).2; omega
      · have := (O12.out.2 r hr).2; omega) (by rw [List.map_append, HQ1.out, hq2]; exact HLIE.out hv1 hoc)
    rw [hl2]
    clear hb11 ho2 hq2 hl2 hoc
    go_wp2_with (first
      | (at_builtin; refine wpList_append_texts2 _ (by kernel_rfl) (.tmp 141) (.tmp 142) rfl w9.heap.size T1 l1 t1 q1 HL1.out rfl O11.out T2 l2 t2 q2 HL2.out rfl w10.heap.size O12.out (by have := HLL1.out; have := HLL2.out; omega) (by have := Z10.out; have := Z11.out; omega) ?_; intro A3 c3 w12 hrr hbl; have RR12 := Lib.hid hrr; have S12 : Hid (Below w9.heap.size w9 w12) := (S11.out.trans hbl); clear hrr hbl)
      | (go_at_call 14; (with_reducible refine (HCLC.out _ _ _ RR12.out).mono ?_); rintro e w13 ⟨rfl, hb13⟩; have S13 := Lib.hid (bel_on S12.out hb13); clear hb13))
    --MARK 12
    have E13 : Hid (Below w6.heap.size w6 w13) := bel_on E9.out S13.out
    have F13 : Hid (Below w5.heap.size w5 w13) := bel_on F9.out S13.out
    have QD : Blk w13.drew w5.heap.size 43 (caseC xv A' pm c' Y k d Xj k xj).toArray := (Q6.out.below' E13.out).drew
    have z1 : w13.drew.setCell ⟨w5.heap.size, 38, none⟩ (.slice Hh k ch) = (w13.drew.setRow w5.heap.size (caseC (xv.withHalf half) A' pm c' Y k d Hh k ch).toArray) := case_half QD hXV.1 hXV.2.1 half Hh k ch
    have z2 : (w13.drew.setRow w5.heap.size (caseC (xv.withHalf half) A' pm c' Y k d Hh k ch).toArray).setCells w5.heap.size 39 (cellsB V) = (w13.drew.setRow w5.heap.size (caseC v2 A' pm c' Y k d Hh k ch).toArray) := by rw [case_nonce (QD.setRow (caseC (xv.withHalf half) A' pm c' Y k d Hh k ch).toArray) hXV.1 hXV.2.1 hXV.2.2 HVL.out, setRow_setRow, HV2.out]
    have y1 : w13.drew.cell? ⟨w5.heap.size, 38, none⟩ = some (.slice Xj k xj) := (box_of QD hXV.1 hXV.2.1 hXV.2.2).c38
    have y2 := QD.frozen 38
    have t2 : (w13.drew.setRow w5.heap.size (caseC (xv.withHalf half) A' pm c' Y k d Hh k ch).toArray).there w5.heap.size 39 (cellsB V).toArray.size := (QD.setRow (caseC (xv.withHalf half) A' pm c' Y k d Hh k ch).toArray).there (by rw [List.size_toArray, List.size_toArray, caseC_length (v := xv.withHalf half) hXV.1 hXV.2.1 hXV.2.2, cellsB_length, HVL.out]; omega)
    refine wp_region_noPanic ?_
    refine wp_region_held_drew (S := fun W' => Below w5.heap.size w5 W') (by kernel_rfl) F13.out.drew (fun hS => ?_)
    refine hd_take 0 (_) rfl rfl (by kernel_rfl) (by kernel_rfl) (by kernel_rfl) (fun _ _ _ h => h) (fun w hw => by go_simp <;> rfl) hS ?_
    simp only [List.getElem_toArray, List.getElem_cons_succ, List.getElem_cons_zero, Act.put, List.setIfInBounds_toArray, List.set_cons_zero, List.set_cons_succ]
    refine hd_load 1 (w0.heap.size + 1 + 1 + 1) (0) (cellsB V) _ _ rfl rfl rfl (by kernel_rfl) (by kernel_rfl) (by kernel_rfl) (fun _ _ _ h => h) rfl (fun w hw => (HXV.out _ (HKW.out _ hw)).range) under_key rfl (key_info HVL.out) hS ?_
    simp only [List.getElem_toArray, List.getElem_cons_succ, List.getElem_cons_zero, Act.put, List.setIfInBounds_toArray, List.set_cons_zero, List.set_cons_succ]
    refine hd_take 2 (_) rfl rfl (by kernel_rfl) (by kernel_rfl) (by kernel_rfl) (fun _ _ _ h => h) (fun w hw => by go_simp <;> rfl) hS ?_
    simp only [List.getElem_toArray, List.getElem_cons_succ, List.getElem_cons_zero, Act.put, List.setIfInBounds_toArray, List.set_cons_zero, List.set_cons_succ]
    refine hd_sole 3 (by kernel_rfl) (op_skip (w13.drew.setRow w5.heap.size (caseC (xv.withHalf half) A' pm c' Y k d Hh k ch).toArray) rfl rfl (by rw [← z1]; simp [go_sem, execOp, y1, y2]) ⟨(below_setRow F13.out.drew (Nat.le_refl _) (caseC (xv.withHalf half) A' pm c' Y k d Hh k ch).toArray), ?_⟩)
    simp only [List.getElem_toArray, List.getElem_cons_succ, List.getElem_cons_zero, Act.put, List.setIfInBounds_toArray, List.set_cons_zero, List.set_cons_succ]
    refine hd_take 4 (_) rfl rfl (by kernel_rfl) (by kernel_rfl) (by kernel_rfl) (fun _ _ _ h => h) (fun w hw => by go_simp <;> rfl) (below_setRow F13.out.drew (Nat.le_refl _) (caseC (xv.withHalf half) A' pm c' Y k d Hh k ch).toArray) ?_
    simp only [List.getElem_toArray, List.getElem_cons_succ, List.getElem_cons_zero, Act.put, List.setIfInBounds_toArray, List.set_cons_zero, List.set_cons_succ]
    refine hd_sole 5 (by kernel_rfl) (op_skip (w13.drew.setRow w5.heap.size (caseC v2 A' pm c' Y k d Hh k ch).toArray) rfl rfl ((run_op_mid 23 _ _ rfl w5.heap.size 39 (cellsB V).toArray rfl rfl t2 (cellsB_size _ HVL.out) (cellsB_all _)).trans (by rw [← z2])) ⟨(below_setRow F13.out.drew (Nat.le_refl _) (caseC v2 A' pm c' Y k d Hh k ch).toArray), ?_⟩)
    simp only [List.getElem_toArray, List.getElem_cons_succ, List.getElem_cons_zero, Act.put, List.setIfInBounds_toArray, List.set_cons_zero, List.set_cons_succ]
    refine wpAnyH_done (by kernel_rfl) (NoPanic.normal ?_) _
    obtain ⟨w20, hw20⟩ : ∃ W, W = (w13.drew.setRow w5.heap.size (caseC v2 A' pm c' Y k d Hh k ch).toArray) := ⟨_, rfl⟩
    have Q20 : Hid (Blk w20 w5.heap.size 43 (caseC v2 A' pm c' Y k d Hh k ch).toArray) := by unfold Hid; rw [hw20]; exact QD.setRow _
    have F20 : Hid (Below w5.heap.size w5 w20) := by unfold Hid; rw [hw20]; exact (below_setRow F13.out.drew (Nat.le_refl _) (caseC v2 A' pm c' Y k d Hh k ch).toArray)
    rw [← hw20]
    clear hw20 z1 z2 y1 y2 t2 QD hS
    go_wp2_with (first | (refine wpList_load_row rfl 43 (.tmp 22) rfl w5.heap.size rfl 43 (caseC v2 A' pm c' Y k d Hh k ch).toArray (0, 0) _ Q20.out Tryz.underlying43 rfl (case_info H216.out.1 H216.out.2.1 H216.out.2.2) ?_))
    --MARK 5
    refine (HJ2.out _ _ _ (HKW.out _ F20.out) (HCX5.out _ F20.out)).mono ?_
    rintro e w21 ⟨rfl, hb21⟩
    have F21 : Hid (Below w5.heap.size w5 w21) := bel_on F20.out hb21
    clear hb21
    --MARK 8
    by_cases hv2e : ve = 2
    · subst hv2e
      go_wp2_with fail
      refine wp_region_noPanic ?_
      refine wp_region_held_drew (S := fun W' => Below w5.heap.size w5 W') (by kernel_rfl) F21.out.drew (fun hS => ?_)
      refine hd_take 0 (_) rfl rfl (by kernel_rfl) (by kernel_rfl) (by kernel_rfl) (fun _ _ _ h => h) (fun w hw => by go_simp <;> rfl) hS ?_
      simp only [List.getElem_toArray, List.getElem_cons_succ, List.getElem_cons_zero, Act.put, List.setIfInBounds_toArray, List.set_cons_zero, List.set_cons_succ]
      refine hd_take 1 (.bool true) rfl rfl (by kernel_rfl) (by kernel_rfl) (by kernel_rfl) (fun _ _ _ h => h) (fun w hw => by simp [go_sem]) hS ?_
      simp only [List.getElem_toArray, List.getElem_cons_succ, List.getElem_cons_zero, Act.put, List.setIfInBounds_toArray, List.set_cons_zero, List.set_cons_succ]
      refine hd_take 2 (_) rfl rfl (by kernel_rfl) (by kernel_rfl) (by kernel_rfl) (fun _ _ _ h => h) (fun w hw => by go_simp <;> rfl) hS ?_
      simp only [List.getElem_toArray, List.getElem_cons_succ, List.getElem_cons_zero, Act.put, List.setIfInBounds_toArray, List.set_cons_zero, List.set_cons_succ]
      refine hg_skip 3 rfl (by rfl) (by kernel_rfl) (by kernel_rfl) (by kernel_rfl) (fun _ _ _ h => h) hS ?_
      simp only [List.getElem_toArray, List.getElem_cons_succ, List.getElem_cons_zero, Act.put, List.setIfInBounds_toArray, List.set_cons_zero, List.set_cons_succ]
      refine hg_skip 4 rfl (by rfl) (by kernel_rfl) (by kernel_rfl) (by kernel_rfl) (fun _ _ _ h => h) hS ?_
      simp only [List.getElem_toArray, List.getElem_cons_succ, List.getElem_cons_zero, Act.put, List.setIfInBounds_toArray, List.set_cons_zero, List.set_cons_succ]
      refine hg_skip 5 rfl (by rfl) (by kernel_rfl) (by kernel_rfl) (by kernel_rfl) (fun _ _ _ h => h) hS ?_
      simp only [List.getElem_toArray, List.getElem_cons_succ, List.getElem_cons_zero, Act.put, List.setIfInBounds_toArray, List.set_cons_zero, List.set_cons_succ]
      refine hg_skip 6 rfl (by rfl) (by kernel_rfl) (by kernel_rfl) (by kernel_rfl) (fun _ _ _ h => h) hS ?_
      simp only [List.getElem_toArray, List.getElem_cons_succ, List.getElem_cons_zero, Act.put, List.setIfInBounds_toArray, List.set_cons_zero, List.set_cons_succ]
      refine hg_skip 7 rfl (by rfl) (by kernel_rfl) (by kernel_rfl) (by kernel_rfl) (fun _ _ _ h => h) hS ?_
      simp only [List.getElem_toArray, List.getElem_cons_succ, List.getElem_cons_zero, Act.put, List.setIfInBounds_toArray, List.set_cons_zero, List.set_cons_succ]
      refine hg_skip 8 rfl (by rfl) (by kernel_rfl) (by kernel_rfl) (by kernel_rfl) (fun _ _ _ h => h) hS ?_
      simp only [List.getElem_toArray, List.getElem_cons_succ, List.getElem_cons_zero, Act.put, List.setIfInBounds_toArray, List.set_cons_zero, List.set_cons_succ]
      refine hg_skip 9 rfl (by rfl) (by kernel_rfl) (by kernel_rfl) (by kernel_rfl) (fun _ _ _ h => h) hS ?_
      simp only [List.getElem_toArray, List.getElem_cons_succ, List.getElem_cons_zero, Act.put, List.setIfInBounds_toArray, List.set_cons_zero, List.set_cons_succ]
      refine hg_skip 10 rfl (by rfl) (by kernel_rfl) (by kernel_rfl) (by kernel_rfl) (fun _ _ _ h => h) hS ?_
      simp only [List.getElem_toArray, List.getElem_cons_succ, List.getElem_cons_zero, Act.put, List.setIfInBounds_toArray, List.set_cons_zero, List.set_cons_succ]
      refine hg_skip 11 rfl (by rfl) (by kernel_rfl) (by kernel_rfl) (by kernel_rfl) (fun _ _ _ h => h) hS ?_
      simp only [List.getElem_toArray, List.getElem_cons_succ, List.getElem_cons_zero, Act.put, List.setIfInBounds_toArray, List.set_cons_zero, List.set_cons_succ]
      refine hg_skip 12 rfl (by rfl) (by kernel_rfl) (by kernel_rfl) (by kernel_rfl) (fun _ _ _ h => h) hS ?_
      simp only [List.getElem_toArray, List.getElem_cons_succ, List.getElem_cons_zero, Act.put, List.setIfInBounds_toArray, List.set_cons_zero, List.set_cons_succ]
      refine hg_skip 13 rfl (by rfl) (by kernel_rfl) (by kernel_rfl) (by kernel_rfl) (fun _ _ _ h => h) hS ?_
      simp only [List.getElem_toArray, List.getElem_cons_succ, List.getElem_cons_zero, Act.put, List.setIfInBounds_toArray, List.set_cons_zero, List.set_cons_succ]
      refine hg_skip 14 rfl (by rfl) (by kernel_rfl) (by kernel_rfl) (by kernel_rfl) (fun _ _ _ h => h) hS ?_
      simp only [List.getElem_toArray, List.getElem_cons_succ, List.getElem_cons_zero, Act.put, List.setIfInBounds_toArray, List.set_cons_zero, List.set_cons_succ]
      refine hg_skip 15 rfl (by rfl) (by kernel_rfl) (by kernel_rfl) (by kernel_rfl) (fun _ _ _ h => h) hS ?_
      simp only [List.getElem_toArray, List.getElem_cons_succ, List.getElem_cons_zero, Act.put, List.setIfInBounds_toArray, List.set_cons_zero, List.set_cons_succ]
      refine hg_skip 16 rfl (by rfl) (by kernel_rfl) (by kernel_rfl) (by kernel_rfl) (fun _ _ _ h => h) hS ?_
      simp only [List.getElem_toArray, List.getElem_cons_succ, List.getElem_cons_zero, Act.put, List.setIfInBounds_toArray, List.set_cons_zero, List.set_cons_succ]
      refine hg_skip 17 rfl (by rfl) (by kernel_rfl) (by kernel_rfl) (by kernel_rfl) (fun _ _ _ h => h) hS ?_
      simp only [List.getElem_toArray, List.getElem_cons_succ, List.getElem_cons_zero, Act.put, List.setIfInBounds_toArray, List.set_cons_zero, List.set_cons_succ]
      refine hg_skip 18 rfl (by rfl) (by kernel_rfl) (by kernel_rfl) (by kernel_rfl) (fun _ _ _ h => h) hS ?_
      simp only [List.getElem_toArray, List.getElem_cons_succ, List.getElem_cons_zero, Act.put, List.setIfInBounds_toArray, List.set_cons_zero, List.set_cons_succ]
      refine hg_skip 19 rfl (by rfl) (by kernel_rfl) (by kernel_rfl) (by kernel_rfl) (fun _ _ _ h => h) hS ?_
      simp only [List.getElem_toArray, List.getElem_cons_succ, List.getElem_cons_zero, Act.put, List.setIfInBounds_toArray, List.set_cons_zero, List.set_cons_succ]
      refine hd_take 20 (_) rfl rfl (by kernel_rfl) (by kernel_rfl) (by kernel_rfl) (fun _ _ _ h => h) (fun w hw => by go_simp <;> rfl) hS ?_
      simp only [List.getElem_toArray, List.getElem_cons_succ, List.getElem_cons_zero, Act.put, List.setIfInBounds_toArray, List.set_cons_zero, List.set_cons_succ]
      refine wpAnyH_done (by kernel_rfl) (NoPanic.normal ?_) _
      have F22' := F21.out.drew
      obtain ⟨w22, hw22⟩ : ∃ W, W = w21.drew := ⟨_, rfl⟩
      rw [← hw22] at F22' ⊢
      have F22 := Lib.hid F22'
      clear F22' hw22 hS
      go_wp2_with fail
      go_ret
      exact ⟨by simp, bel_on b0.out (HKW.out _ F22.out)⟩
    go_wp2_with fail
    by_cases hhe : half = hv
    · subst hhe
      by_cases hvk : V = kn
      · have HVK : Hid ((V == kn) = true) := by unfold Hid; simpa using hvk
        clear hvk
        refine wp_region_noPanic ?_
        refine wp_region_held_drew (S := fun W' => Below w5.heap.size w5 W') (by kernel_rfl) F21.out.drew (fun hS => ?_)
        refine hd_take 0 (_) rfl rfl (by kernel_rfl) (by kernel_rfl) (by kernel_rfl) (fun _ _ _ h => h) (fun w hw => by go_simp <;> rfl) hS ?_
        simp only [List.getElem_toArray, List.getElem_cons_succ, List.getElem_cons_zero, Act.put, List.setIfInBounds_toArray, List.set_cons_zero, List.set_cons_succ]
        refine hd_take 1 (.bool false) rfl rfl (by kernel_rfl) (by kernel_rfl) (by kernel_rfl) (fun _ _ _ h => h) (fun w hw => by simp [go_sem, hv2e]) hS ?_
        simp only [List.getElem_toArray, List.getElem_cons_succ, List.getElem_cons_zero, Act.put, List.setIfInBounds_toArray, List.set_cons_zero, List.set_cons_succ]
        refine hd_take 2 (_) rfl rfl (by kernel_rfl) (by kernel_rfl) (by kernel_rfl) (fun _ _ _ h => h) (fun w hw => by go_simp <;> rfl) hS ?_
        simp only [List.getElem_toArray, List.getElem_cons_succ, List.getElem_cons_zero, Act.put, List.setIfInBounds_toArray, List.set_cons_zero, List.set_cons_succ]
        refine hg_take 3 (_) rfl (by rfl) (by kernel_rfl) (by kernel_rfl) (by kernel_rfl) (fun _ _ _ h => h) (fun w hw => by go_simp <;> rfl) hS ?_
        simp only [List.getElem_toArray, List.getElem_cons_succ, List.getElem_cons_zero, Act.put, List.setIfInBounds_toArray, List.set_cons_zero, List.set_cons_succ]
        refine hg_take 4 (.string (strB half)) rfl (by rfl) (by kernel_rfl) (by kernel_rfl) (by kernel_rfl) (fun _ _ _ h => h) (fun w hw => by have hx := run_string_br (HBH.out _ (HKW.out _ hw)) _ HHN.out; simp [execOp, Act.eval, Act.put, Sem.run_bind, hx]) hS ?_
        simp only [List.getElem_toArray, List.getElem_cons_succ, List.getElem_cons_zero, Act.put, List.setIfInBounds_toArray, List.set_cons_zero, List.set_cons_succ]
        refine hg_take 5 (_) rfl (by rfl) (by kernel_rfl) (by kernel_rfl) (by kernel_rfl) (fun _ _ _ h => h) (fun w hw => by go_simp <;> rfl) hS ?_
        simp only [List.getElem_toArray, List.getElem_cons_succ, List.getElem_cons_zero, Act.put, List.setIfInBounds_toArray, List.set_cons_zero, List.set_cons_succ]
        refine hg_take 6 (_) rfl (by rfl) (by kernel_rfl) (by kernel_rfl) (by kernel_rfl) (fun _ _ _ h => h) (fun w hw => by go_simp <;> rfl) hS ?_
        simp only [List.getElem_toArray, List.getElem_cons_succ, List.getElem_cons_zero, Act.put, List.setIfInBounds_toArray, List.set_cons_zero, List.set_cons_succ]
        refine hg_take 7 (_) rfl (by rfl) (by kernel_rfl) (by kernel_rfl) (by kernel_rfl) (fun _ _ _ h => h) (fun w hw => by go_simp <;> rfl) hS ?_
        simp only [List.getElem_toArray, List.getElem_cons_succ, List.getElem_cons_zero, Act.put, List.setIfInBounds_toArray, List.set_cons_zero, List.set_cons_succ]
        refine hg_take 8 (.slice Xj k xj) rfl (by rfl) (by kernel_rfl) (by kernel_rfl) (by kernel_rfl) (fun _ _ _ h => h) (fun w hw => by have hx := (HRJ.out _ (HKW.out _ hw)).1; simp [go_sem, hx]) hS ?_
        simp only [List.getElem_toArray, List.getElem_cons_succ, List.getElem_cons_zero, Act.put, List.setIfInBounds_toArray, List.set_cons_zero, List.set_cons_succ]
        refine hg_take 9 (.string (strB half)) rfl (by rfl) (by kernel_rfl) (by kernel_rfl) (by kernel_rfl) (fun _ _ _ h => h) (fun w hw => by have hx := run_string_br (HRJ.out _ (HKW.out _ hw)).2 _ HVN.out; simp [execOp, Act.eval, Act.put, Sem.run_bind, hx]) hS ?_
        simp only [List.getElem_toArray, List.getElem_cons_succ, List.getElem_cons_zero, Act.put, List.setIfInBounds_toArray, List.set_cons_zero, List.set_cons_succ]
        refine hg_take 10 (.bool true) rfl (by rfl) (by kernel_rfl) (by kernel_rfl) (by kernel_rfl) (fun _ _ _ h => h) (fun w hw => by simp [go_sem]) hS ?_
        simp only [List.getElem_toArray, List.getElem_cons_succ, List.getElem_cons_zero, Act.put, List.setIfInBounds_toArray, List.set_cons_zero, List.set_cons_succ]
        refine hg_take 11 (_) rfl (by rfl) (by kernel_rfl) (by kernel_rfl) (by kernel_rfl) (fun _ _ _ h => h) (fun w hw => by go_simp <;> rfl) hS ?_
        simp only [List.getElem_toArray, List.getElem_cons_succ, List.getElem_cons_zero, Act.put, List.setIfInBounds_toArray, List.set_cons_zero, List.set_cons_succ]
        refine hg_load 12 (w0.heap.size + 1 + 1 + 1) (0) (cellsB V) _ _ rfl rfl (by rfl) (by kernel_rfl) (by kernel_rfl) (by kernel_rfl) (fun _ _ _ h => h) rfl (fun w hw => (HXV.out _ (HKW.out _ hw)).range) under_key rfl (key_info HVL.out) hS ?_
        simp only [List.getElem_toArray, List.getElem_cons_succ, List.getElem_cons_zero, Act.put, List.setIfInBounds_toArray, List.set_cons_zero, List.set_cons_succ]
        refine hg_take 13 (_) rfl (by rfl) (by kernel_rfl) (by kernel_rfl) (by kernel_rfl) (fun _ _ _ h => h) (fun w hw => by go_simp <;> rfl) hS ?_
        simp only [List.getElem_toArray, List.getElem_cons_succ, List.getElem_cons_zero, Act.put, List.setIfInBounds_toArray, List.set_cons_zero, List.set_cons_succ]
        refine hg_take 14 (.slice (some ⟨bN, oN, none⟩) n a) rfl (by rfl) (by kernel_rfl) (by kernel_rfl) (by kernel_rfl) (fun _ _ _ h => h) (fun w hw => by have hx := (HC21.out _ hw).1; simp [go_sem, hx]) hS ?_
        simp only [List.getElem_toArray, List.getElem_cons_succ, List.getElem_cons_zero, Act.put, List.setIfInBounds_toArray, List.set_cons_zero, List.set_cons_succ]
        refine hg_take 15 (_) rfl (by rfl) (by kernel_rfl) (by kernel_rfl) (by kernel_rfl) (fun _ _ _ h => h) (fun w hw => by go_simp <;> rfl) hS ?_
        simp only [List.getElem_toArray, List.getElem_cons_succ, List.getElem_cons_zero, Act.put, List.setIfInBounds_toArray, List.set_cons_zero, List.set_cons_succ]
        refine hg_take 16 (_) rfl (by rfl) (by kernel_rfl) (by kernel_rfl) (by kernel_rfl) (fun _ _ _ h => h) (fun w hw => by go_simp <;> rfl) hS ?_
        simp only [List.getElem_toArray, List.getElem_cons_succ, List.getElem_cons_zero, Act.put, List.setIfInBounds_toArray, List.set_cons_zero, List.set_cons_succ]
        refine hg_load 17 (bN) (oN + j * 16) (cellsB kn) _ _ rfl rfl (by rfl) (by kernel_rfl) (by kernel_rfl) (by kernel_rfl) (fun _ _ _ h => h) rfl (fun w hw => (HKR.out _ hw).1) under_key rfl (key_info HKN.out) hS ?_
        simp only [List.getElem_toArray, List.getElem_cons_succ, List.getElem_cons_zero, Act.put, List.setIfInBounds_toArray, List.set_cons_zero, List.set_cons_succ]
        refine hg_take 18 (.bool true) rfl (by rfl) (by kernel_rfl) (by kernel_rfl) (by kernel_rfl) (fun _ _ _ h => h) (fun w hw => by have hx := equalIn_keys w V kn HVL HKN; rw [HVK.out] at hx; simp [go_sem, hx]) hS ?_
        simp only [List.getElem_toArray, List.getElem_cons_succ, List.getElem_cons_zero, Act.put, List.setIfInBounds_toArray, List.set_cons_zero, List.set_cons_succ]
        refine hg_take 19 (_) rfl (by rfl) (by kernel_rfl) (by kernel_rfl) (by kernel_rfl) (fun _ _ _ h => h) (fun w hw => by go_simp <;> rfl) hS ?_
        simp only [List.getElem_toArray, List.getElem_cons_succ, List.getElem_cons_zero, Act.put, List.setIfInBounds_toArray, List.set_cons_zero, List.set_cons_succ]
        refine hd_take 20 (_) rfl rfl (by kernel_rfl) (by kernel_rfl) (by kernel_rfl) (fun _ _ _ h => h) (fun w hw => by go_simp <;> rfl) hS ?_
        simp only [List.getElem_toArray, List.getElem_cons_succ, List.getElem_cons_zero, Act.put, List.setIfInBounds_toArray, List.set_cons_zero, List.set_cons_succ]
        refine wpAnyH_done (by kernel_rfl) (NoPanic.normal ?_) _
        have F22' := F21.out.drew
        obtain ⟨w22, hw22⟩ : ∃ W, W = w21.drew := ⟨_, rfl⟩
        rw [← hw22] at F22' ⊢
        have F22 := Lib.hid F22'
        clear F22' hw22 hS
        go_wp2_with fail
        go_ret
        exact ⟨by simp, bel_on b0.out (HKW.out _ F22.out)⟩
      · have HVK : Hid ((V == kn) = false) := by unfold Hid; simpa using hvk
        have HCL2 : Hid (Clash [openT half V, openT half kn]) := open_clash HVL.out HKN.out (HOTH.out hv2e) HKC0.out (fun h => hvk h.2)
        clear hvk
        refine wp_region_noPanic ?_
        refine wp_region_held_drew (S := fun W' => Below w5.heap.size w5 W') (by kernel_rfl) F21.out.drew (fun hS => ?_)
        refine hd_take 0 (_) rfl rfl (by kernel_rfl) (by kernel_rfl) (by kernel_rfl) (fun _ _ _ h => h) (fun w hw => by go_simp <;> rfl) hS ?_
        simp only [List.getElem_toArray, List.getElem_cons_succ, List.getElem_cons_zero, Act.put, List.setIfInBounds_toArray, List.set_cons_zero, List.set_cons_succ]
        refine hd_take 1 (.bool false) rfl rfl (by kernel_rfl) (by kernel_rfl) (by kernel_rfl) (fun _ _ _ h => h) (fun w hw => by simp [go_sem, hv2e]) hS ?_
        simp only [List.getElem_toArray, List.getElem_cons_succ, List.getElem_cons_zero, Act.put, List.setIfInBounds_toArray, List.set_cons_zero, List.set_cons_succ]
        refine hd_take 2 (_) rfl rfl (by kernel_rfl) (by kernel_rfl) (by kernel_rfl) (fun _ _ _ h => h) (fun w hw => by go_simp <;> rfl) hS ?_
        simp only [List.getElem_toArray, List.getElem_cons_succ, List.getElem_cons_zero, Act.put, List.setIfInBounds_toArray, List.set_cons_zero, List.set_cons_succ]
        refine hg_take 3 (_) rfl (by rfl) (by kernel_rfl) (by kernel_rfl) (by kernel_rfl) (fun _ _ _ h => h) (fun w hw => by go_simp <;> rfl) hS ?_
        simp only [List.getElem_toArray, List.getElem_cons_succ, List.getElem_cons_zero, Act.put, List.setIfInBounds_toArray, List.set_cons_zero, List.set_cons_succ]
        refine hg_take 4 (.string (strB half)) rfl (by rfl) (by kernel_rfl) (by kernel_rfl) (by kernel_rfl) (fun _ _ _ h => h) (fun w hw => by have hx := run_string_br (HBH.out _ (HKW.out _ hw)) _ HHN.out; simp [execOp, Act.eval, Act.put, Sem.run_bind, hx]) hS ?_
        simp only [List.getElem_toArray, List.getElem_cons_succ, List.getElem_cons_zero, Act.put, List.setIfInBounds_toArray, List.set_cons_zero, List.set_cons_succ]
        refine hg_take 5 (_) rfl (by rfl) (by kernel_rfl) (by kernel_rfl) (by kernel_rfl) (fun _ _ _ h => h) (fun w hw => by go_simp <;> rfl) hS ?_
        simp only [List.getElem_toArray, List.getElem_cons_succ, List.getElem_cons_zero, Act.put, List.setIfInBounds_toArray, List.set_cons_zero, List.set_cons_succ]
        refine hg_take 6 (_) rfl (by rfl) (by kernel_rfl) (by kernel_rfl) (by kernel_rfl) (fun _ _ _ h => h) (fun w hw => by go_simp <;> rfl) hS ?_
        simp only [List.getElem_toArray, List.getElem_cons_succ, List.getElem_cons_zero, Act.put, List.setIfInBounds_toArray, List.set_cons_zero, List.set_cons_succ]
        refine hg_take 7 (_) rfl (by rfl) (by kernel_rfl) (by kernel_rfl) (by kernel_rfl) (fun _ _ _ h => h) (fun w hw => by go_simp <;> rfl) hS ?_
        simp only [List.getElem_toArray, List.getElem_cons_succ, List.getElem_cons_zero, Act.put, List.setIfInBounds_toArray, List.set_cons_zero, List.set_cons_succ]
        refine hg_take 8 (.slice Xj k xj) rfl (by rfl) (by kernel_rfl) (by kernel_rfl) (by kernel_rfl) (fun _ _ _ h => h) (fun w hw => by have hx := (HRJ.out _ (HKW.out _ hw)).1; simp [go_sem, hx]) hS ?_
        simp only [List.getElem_toArray, List.getElem_cons_succ, List.getElem_cons_zero, Act.put, List.setIfInBounds_toArray, List.set_cons_zero, List.set_cons_succ]
        refine hg_take 9 (.string (strB half)) rfl (by rfl) (by kernel_rfl) (by kernel_rfl) (by kernel_rfl) (fun _ _ _ h => h) (fun w hw => by have hx := run_string_br (HRJ.out _ (HKW.out _ hw)).2 _ HVN.out; simp [execOp, Act.eval, Act.put, Sem.run_bind, hx]) hS ?_
        simp only [List.getElem_toArray, List.getElem_cons_succ, List.getElem_cons_zero, Act.put, List.setIfInBounds_toArray, List.set_cons_zero, List.set_cons_succ]
        refine hg_take 10 (.bool true) rfl (by rfl) (by kernel_rfl) (by kernel_rfl) (by kernel_rfl) (fun _ _ _ h => h) (fun w hw => by simp [go_sem]) hS ?_
        simp only [List.getElem_toArray, List.getElem_cons_succ, List.getElem_cons_zero, Act.put, List.setIfInBounds_toArray, List.set_cons_zero, List.set_cons_succ]
        refine hg_take 11 (_) rfl (by rfl) (by kernel_rfl) (by kernel_rfl) (by kernel_rfl) (fun _ _ _ h => h) (fun w hw => by go_simp <;> rfl) hS ?_
        simp only [List.getElem_toArray, List.getElem_cons_succ, List.getElem_cons_zero, Act.put, List.setIfInBounds_toArray, List.set_cons_zero, List.set_cons_succ]
        refine hg_load 12 (w0.heap.size + 1 + 1 + 1) (0) (cellsB V) _ _ rfl rfl (by rfl) (by kernel_rfl) (by kernel_rfl) (by kernel_rfl) (fun _ _ _ h => h) rfl (fun w hw => (HXV.out _ (HKW.out _ hw)).range) under_key rfl (key_info HVL.out) hS ?_
        simp only [List.getElem_toArray, List.getElem_cons_succ, List.getElem_cons_zero, Act.put, List.setIfInBounds_toArray, List.set_cons_zero, List.set_cons_succ]
        refine hg_take 13 (_) rfl (by rfl) (by kernel_rfl) (by kernel_rfl) (by kernel_rfl) (fun _ _ _ h => h) (fun w hw => by go_simp <;> rfl) hS ?_
        simp only [List.getElem_toArray, List.getElem_cons_succ, List.getElem_cons_zero, Act.put, List.setIfInBounds_toArray, List.set_cons_zero, List.set_cons_succ]
        refine hg_take 14 (.slice (some ⟨bN, oN, none⟩) n a) rfl (by rfl) (by kernel_rfl) (by kernel_rfl) (by kernel_rfl) (fun _ _ _ h => h) (fun w hw => by have hx := (HC21.out _ hw).1; simp [go_sem, hx]) hS ?_
        simp only [List.getElem_toArray, List.getElem_cons_succ, List.getElem_cons_zero, Act.put, List.setIfInBounds_toArray, List.set_cons_zero, List.set_cons_succ]
        refine hg_take 15 (_) rfl (by rfl) (by kernel_rfl) (by kernel_rfl) (by kernel_rfl) (fun _ _ _ h => h) (fun w hw => by go_simp <;> rfl) hS ?_
        simp only [List.getElem_toArray, List.getElem_cons_succ, List.getElem_cons_zero, Act.put, List.setIfInBounds_toArray, List.set_cons_zero, List.set_cons_succ]
        refine hg_take 16 (_) rfl (by rfl) (by kernel_rfl) (by kernel_rfl) (by kernel_rfl) (fun _ _ _ h => h) (fun w hw => by go_simp <;> rfl) hS ?_
        simp only [List.getElem_toArray, List.getElem_cons_succ, List.getElem_cons_zero, Act.put, List.setIfInBounds_toArray, List.set_cons_zero, List.set_cons_succ]
        refine hg_load 17 (bN) (oN + j * 16) (cellsB kn) _ _ rfl rfl (by rfl) (by kernel_rfl) (by kernel_rfl) (by kernel_rfl) (fun _ _ _ h => h) rfl (fun w hw => (HKR.out _ hw).1) under_key rfl (key_info HKN.out) hS ?_
        simp only [List.getElem_toArray, List.getElem_cons_succ, List.getElem_cons_zero, Act.put, List.setIfInBounds_toArray, List.set_cons_zero, List.set_cons_succ]
        refine hg_take 18 (.bool false) rfl (by rfl) (by kernel_rfl) (by kernel_rfl) (by kernel_rfl) (fun _ _ _ h => h) (fun w hw => by have hx := equalIn_keys w V kn HVL HKN; rw [HVK.out] at hx; simp [go_sem, hx]) hS ?_
        simp only [List.getElem_toArray, List.getElem_cons_succ, List.getElem_cons_zero, Act.put, List.setIfInBounds_toArray, List.set_cons_zero, List.set_cons_succ]
        refine hg_take 19 (_) rfl (by rfl) (by kernel_rfl) (by kernel_rfl) (by kernel_rfl) (fun _ _ _ h => h) (fun w hw => by go_simp <;> rfl) hS ?_
        simp only [List.getElem_toArray, List.getElem_cons_succ, List.getElem_cons_zero, Act.put, List.setIfInBounds_toArray, List.set_cons_zero, List.set_cons_succ]
        refine hd_take 20 (_) rfl rfl (by kernel_rfl) (by kernel_rfl) (by kernel_rfl) (fun _ _ _ h => h) (fun w hw => by go_simp <;> rfl) hS ?_
        simp only [List.getElem_toArray, List.getElem_cons_succ, List.getElem_cons_zero, Act.put, List.setIfInBounds_toArray, List.set_cons_zero, List.set_cons_succ]
        refine wpAnyH_done (by kernel_rfl) (NoPanic.normal ?_) _
        have F22' := F21.out.drew
        obtain ⟨w22, hw22⟩ : ∃ W, W = w21.drew := ⟨_, rfl⟩
        rw [← hw22] at F22' ⊢
        have F22 := Lib.hid F22'
        clear F22' hw22 hS
        have HSL : Hid ((([2] : List UInt8) ++ V).length = 17) := by unfold Hid; simp [HVL.out]
        have HTL : Hid ((([2] : List UInt8) ++ kn).length = 17) := by unfold Hid; simp [HKN.out]
        have HS1 : Hid ((([2] : List UInt8) ++ V ++ half).length = 17 + k) := by unfold Hid; simp [HVL.out, HHN.out]; omega
        have HT1 : Hid ((([2] : List UInt8) ++ kn ++ half).length = 17 + k) := by unfold Hid; simp [HKN.out, HVN.out]; omega
        go_wp2_with (first | (at_builtin; (first | rw [show (#[.int .u8 2] : Array Value) = (cellsB [2]).toArray from rfl] | skip); refine wpList_append_bytes _ rfl (.tmp 180) (.tmp 181) rfl w22.heap.size (some ⟨w22.heap.size, 0, none⟩) 1 1 [2] rfl rfl (OB.lit _ w22 [2] (Nat.le_refl _) (by simp) rfl) (some ⟨w0.heap.size + 1 + 1 + 1, 0, none⟩) 16 16 V HVL.out rfl (((HXV.out _ (HKW.out _ F22.out)).below' (alloc_bel w22 _)).src HVL.out) (by omega) (by simp) ?_; intro A6 c6 w23 hon hbl hg; have O6 := Lib.hid hon; have E6 := Lib.hid ((alloc_bel w22 _).trans hbl); clear hon hbl hg) | (at_builtin; refine wpList_append_bytes _ rfl (.tmp 182) (.tmp 183) rfl w22.heap.size A6 17 c6 ([2] ++ V) HSL.out rfl O6.out Hh k ch half HHN.out rfl ((HBH.out _ (HKW.out _ (bel_on F22.out E6.out))).src HHN.out) (by omega) E6.out.size ?_; intro A7 c7 w24 hon hbl hg; have O7 := Lib.hid hon; have F24 := Lib.hid (bel_on F22.out (E6.out.trans hbl)); clear hon hbl hg))
        --MARK 6
        refine wp_region_noPanic ?_
        refine wp_region_held_drew (S := fun W' => Below w5.heap.size w5 W') (by kernel_rfl) F24.out.drew (fun hS => ?_)
        refine hd_take 1 (_) rfl rfl (by kernel_rfl) (by kernel_rfl) (by kernel_rfl) (fun _ _ _ h => h) (fun w hw => by go_simp <;> rfl) hS ?_
        simp only [List.getElem_toArray, List.getElem_cons_succ, List.getElem_cons_zero, Act.put, List.setIfInBounds_toArray, List.set_cons_zero, List.set_cons_succ]
        refine hd_take 2 (.slice (some ⟨bN, oN, none⟩) n a) rfl rfl (by kernel_rfl) (by kernel_rfl) (by kernel_rfl) (fun _ _ _ h => h) (fun w hw => by have hx := (HC21.out _ hw).1; simp [go_sem, hx]) hS ?_
        simp only [List.getElem_toArray, List.getElem_cons_succ, List.getElem_cons_zero, Act.put, List.setIfInBounds_toArray, List.set_cons_zero, List.set_cons_succ]
        refine hd_take 3 (_) rfl rfl (by kernel_rfl) (by kernel_rfl) (by kernel_rfl) (fun _ _ _ h => h) (fun w hw => by go_simp <;> rfl) hS ?_
        simp only [List.getElem_toArray, List.getElem_cons_succ, List.getElem_cons_zero, Act.put, List.setIfInBounds_toArray, List.set_cons_zero, List.set_cons_succ]
        refine hd_take 4 (_) rfl rfl (by kernel_rfl) (by kernel_rfl) (by kernel_rfl) (fun _ _ _ h => h) (fun w hw => by go_simp <;> rfl) hS ?_
        simp only [List.getElem_toArray, List.getElem_cons_succ, List.getElem_cons_zero, Act.put, List.setIfInBounds_toArray, List.set_cons_zero, List.set_cons_succ]
        refine hd_take 5 (_) rfl rfl (by kernel_rfl) (by kernel_rfl) (by kernel_rfl) (fun _ _ _ h => h) (fun w hw => by go_simp <;> rfl) hS ?_
        simp only [List.getElem_toArray, List.getElem_cons_succ, List.getElem_cons_zero, Act.put, List.setIfInBounds_toArray, List.set_cons_zero, List.set_cons_succ]
        refine hd_take 7 (_) rfl rfl (by kernel_rfl) (by kernel_rfl) (by kernel_rfl) (fun _ _ _ h => h) (fun w hw => by go_simp <;> rfl) hS ?_
        simp only [List.getElem_toArray, List.getElem_cons_succ, List.getElem_cons_zero, Act.put, List.setIfInBounds_toArray, List.set_cons_zero, List.set_cons_succ]
        refine hd_take 8 (_) rfl rfl (by kernel_rfl) (by kernel_rfl) (by kernel_rfl) (fun _ _ _ h => h) (fun w hw => by go_simp <;> rfl) hS ?_
        simp only [List.getElem_toArray, List.getElem_cons_succ, List.getElem_cons_zero, Act.put, List.setIfInBounds_toArray, List.set_cons_zero, List.set_cons_succ]
        refine hd_take 9 (_) rfl rfl (by kernel_rfl) (by kernel_rfl) (by kernel_rfl) (fun _ _ _ h => h) (fun w hw => by go_simp <;> rfl) hS ?_
        simp only [List.getElem_toArray, List.getElem_cons_succ, List.getElem_cons_zero, Act.put, List.setIfInBounds_toArray, List.set_cons_zero, List.set_cons_succ]
        refine hd_take 10 (.slice Xj k xj) rfl rfl (by kernel_rfl) (by kernel_rfl) (by kernel_rfl) (fun _ _ _ h => h) (fun w hw => by have hx := (HRJ.out _ (HKW.out _ hw)).1; simp [go_sem, hx]) hS ?_
        simp only [List.getElem_toArray, List.getElem_cons_succ, List.getElem_cons_zero, Act.put, List.setIfInBounds_toArray, List.set_cons_zero, List.set_cons_succ]
        --MARK 7
        have d0 : Below w24.heap.size w24 (w24.drew.alloc (.cells (cellsB [2]).toArray 5)) := bel_on (Below.refl _ _).drew (alloc_bel w24.drew _)
        refine hd_sole 0 (by kernel_rfl) (op_run (.slice (some ⟨w24.heap.size, 0, none⟩) 1 1) (w24.drew.alloc (.cells (cellsB [2]).toArray 5)) rfl rfl (by go_simp <;> rfl) ⟨bel_on F24.out d0, ?_⟩)
        simp only [List.getElem_toArray, List.getElem_cons_succ, List.getElem_cons_zero, Act.put, List.setIfInBounds_toArray, List.set_cons_zero, List.set_cons_succ]
        refine hd_appB 6 (.tmp 185) (.tmp 190) rfl rfl rfl (by kernel_rfl) w24.heap.size (some ⟨w24.heap.size, 0, none⟩) 1 1 [2] rfl rfl (OB.lit _ w24.drew [2] (Nat.le_refl _) (by simp) rfl) (some ⟨bN, oN + j * 16, none⟩) 16 16 kn HKN.out rfl (range_src (HKR.out _ (bel_on F24.out d0)).1 HKN.out) (by omega) d0.size ?_
        intro A8 c8 w26 hon8 hbl8
        have d1 := d0.trans hbl8
        refine ⟨bel_on F24.out d1, ?_⟩
        simp only [List.getElem_toArray, List.getElem_cons_succ, List.getElem_cons_zero, Act.put, List.setIfInBounds_toArray, List.set_cons_zero, List.set_cons_succ]
        refine hd_appB 11 (.tmp 191) (.tmp 195) rfl rfl rfl (by kernel_rfl) w24.heap.size A8 17 c8 ([2] ++ kn) HTL.out rfl hon8 Xj k xj half HVN.out rfl ((HRJ.out _ (HKW.out _ (bel_on F24.out d1))).2.src HVN.out) (by omega) d1.size ?_
        intro A9 c9 w27 hon9 hbl9
        have d2 := d1.trans hbl9
        have F27 : Hid (Below w5.heap.size w5 w27) := bel_on F24.out d2
        refine ⟨F27.out, ?_⟩
        simp only [List.getElem_toArray, List.getElem_cons_succ, List.getElem_cons_zero, Act.put, List.setIfInBounds_toArray, List.set_cons_zero, List.set_cons_succ]
        refine hd_take 12 (_) rfl rfl (by kernel_rfl) (by kernel_rfl) (by kernel_rfl) (fun _ _ _ h => h) (fun w hw => by go_simp <;> rfl) F27.out ?_
        simp only [List.getElem_toArray, List.getElem_cons_succ, List.getElem_cons_zero, Act.put, List.setIfInBounds_toArray, List.set_cons_zero, List.set_cons_succ]
        refine wpAnyH_done (by kernel_rfl) (NoPanic.normal ?_) _
        have R1 : Hid (BR w27 A7 c7 ([2] ++ V ++ half)) := (O7.out.below d2).br (by rw [HS1.out]; omega)
        have R2 : Hid (BR w27 A9 c9 ([2] ++ kn ++ half)) := hon9.br (by rw [HT1.out]; omega)
        have HCC := Lib.hid (clash2_any A7 c7 ([2] ++ V ++ half) A9 c9 ([2] ++ kn ++ half) w27 HS1.out HT1.out R1.out R2.out (by omega) (by omega) HCL2.out)
        clear d0 d1 d2 hbl8 hbl9 hon8 hon9 hS
        go_wp2_with (first | (go_at_call 14; (with_reducible refine HCC.out.mono ?_); rintro e w28 ⟨rfl, hb28⟩; have F28 := Lib.hid (bel_on F27.out hb28); clear hb28))
        go_ret
        exact ⟨by simp, bel_on b0.out (HKW.out _ F28.out)⟩
    · have HSNE : Hid (¬ strB half = strB hv ∧ ¬ (strB half).toList = (strB hv).toList) := str_ne hhe
      have HCL2 : Hid (Clash [openT half V, openT hv kn]) := open_clash HVL.out HKN.out (HOTH.out hv2e) HKC0.out (fun h => hhe h.1)
      clear hhe
      refine wp_region_noPanic ?_
      refine wp_region_held_drew (S := fun W' => Below w5.heap.size w5 W') (by kernel_rfl) F21.out.drew (fun hS => ?_)
      refine hd_take 0 (_) rfl rfl (by kernel_rfl) (by kernel_rfl) (by kernel_rfl) (fun _ _ _ h => h) (fun w hw => by go_simp <;> rfl) hS ?_
      simp only [List.getElem_toArray, List.getElem_cons_succ, List.getElem_cons_zero, Act.put, List.setIfInBounds_toArray, List.set_cons_zero, List.set_cons_succ]
      refine hd_take 1 (.bool false) rfl rfl (by kernel_rfl) (by kernel_rfl) (by kernel_rfl) (fun _ _ _ h => h) (fun w hw => by simp [go_sem, hv2e]) hS ?_
      simp only [List.getElem_toArray, List.getElem_cons_succ, List.getElem_cons_zero, Act.put, List.setIfInBounds_toArray, List.set_cons_zero, List.set_cons_succ]
      refine hd_take 2 (_) rfl rfl (by kernel_rfl) (by kernel_rfl) (by kernel_rfl) (fun _ _ _ h => h) (fun w hw => by go_simp <;> rfl) hS ?_
      simp only [List.getElem_toArray, List.getElem_cons_succ, List.getElem_cons_zero, Act.put, List.setIfInBounds_toArray, List.set_cons_zero, List.set_cons_succ]
      refine hg_take 3 (_) rfl (by rfl) (by kernel_rfl) (by kernel_rfl) (by kernel_rfl) (fun _ _ _ h => h) (fun w hw => by go_simp <;> rfl) hS ?_
      simp only [List.getElem_toArray, List.getElem_cons_succ, List.getElem_cons_zero, Act.put, List.setIfInBounds_toArray, List.set_cons_zero, List.set_cons_succ]
      refine hg_take 4 (.string (strB half)) rfl (by rfl) (by kernel_rfl) (by kernel_rfl) (by kernel_rfl) (fun _ _ _ h => h) (fun w hw => by have hx := run_string_br (HBH.out _ (HKW.out _ hw)) _ HHN.out; simp [execOp, Act.eval, Act.put, Sem.run_bind, hx]) hS ?_
      simp only [List.getElem_toArray, List.getElem_cons_succ, List.getElem_cons_zero, Act.put, List.setIfInBounds_toArray, List.set_cons_zero, List.set_cons_succ]
      refine hg_take 5 (_) rfl (by rfl) (by kernel_rfl) (by kernel_rfl) (by kernel_rfl) (fun _ _ _ h => h) (fun w hw => by go_simp <;> rfl) hS ?_
      simp only [List.getElem_toArray, List.getElem_cons_succ, List.getElem_cons_zero, Act.put, List.setIfInBounds_toArray, List.set_cons_zero, List.set_cons_succ]
      refine hg_take 6 (_) rfl (by rfl) (by kernel_rfl) (by kernel_rfl) (by kernel_rfl) (fun _ _ _ h => h) (fun w hw => by go_simp <;> rfl) hS ?_
      simp only [List.getElem_toArray, List.getElem_cons_succ, List.getElem_cons_zero, Act.put, List.setIfInBounds_toArray, List.set_cons_zero, List.set_cons_succ]
      refine hg_take 7 (_) rfl (by rfl) (by kernel_rfl) (by kernel_rfl) (by kernel_rfl) (fun _ _ _ h => h) (fun w hw => by go_simp <;> rfl) hS ?_
      simp only [List.getElem_toArray, List.getElem_cons_succ, List.getElem_cons_zero, Act.put, List.setIfInBounds_toArray, List.set_cons_zero, List.set_cons_succ]
      refine hg_take 8 (.slice Xj k xj) rfl (by rfl) (by kernel_rfl) (by kernel_rfl) (by kernel_rfl) (fun _ _ _ h => h) (fun w hw => by have hx := (HRJ.out _ (HKW.out _ hw)).1; simp [go_sem, hx]) hS ?_
      simp only [List.getElem_toArray, List.getElem_cons_succ, List.getElem_cons_zero, Act.put, List.setIfInBounds_toArray, List.set_cons_zero, List.set_cons_succ]
      refine hg_take 9 (.string (strB hv)) rfl (by rfl) (by kernel_rfl) (by kernel_rfl) (by kernel_rfl) (fun _ _ _ h => h) (fun w hw => by have hx := run_string_br (HRJ.out _ (HKW.out _ hw)).2 _ HVN.out; simp [execOp, Act.eval, Act.put, Sem.run_bind, hx]) hS ?_
      simp only [List.getElem_toArray, List.getElem_cons_succ, List.getElem_cons_zero, Act.put, List.setIfInBounds_toArray, List.set_cons_zero, List.set_cons_succ]
      refine hg_take 10 (.bool false) rfl (by rfl) (by kernel_rfl) (by kernel_rfl) (by kernel_rfl) (fun _ _ _ h => h) (fun w hw => by simp [go_sem, HSNE.out.1, HSNE.out.2]) hS ?_
      simp only [List.getElem_toArray, List.getElem_cons_succ, List.getElem_cons_zero, Act.put, List.setIfInBounds_toArray, List.set_cons_zero, List.set_cons_succ]
      refine hg_take 11 (_) rfl (by rfl) (by kernel_rfl) (by kernel_rfl) (by kernel_rfl) (fun _ _ _ h => h) (fun w hw => by go_simp <;> rfl) hS ?_
      simp only [List.getElem_toArray, List.getElem_cons_succ, List.getElem_cons_zero, Act.put, List.setIfInBounds_toArray, List.set_cons_zero, List.set_cons_succ]
      refine hg_skip 12 rfl (by rfl) (by kernel_rfl) (by kernel_rfl) (by kernel_rfl) (fun _ _ _ h => h) hS ?_
      simp only [List.getElem_toArray, List.getElem_cons_succ, List.getElem_cons_zero, Act.put, List.setIfInBounds_toArray, List.set_cons_zero, List.set_cons_succ]
      refine hg_skip 13 rfl (by rfl) (by kernel_rfl) (by kernel_rfl) (by kernel_rfl) (fun _ _ _ h => h) hS ?_
      simp only [List.getElem_toArray, List.getElem_cons_succ, List.getElem_cons_zero, Act.put, List.setIfInBounds_toArray, List.set_cons_zero, List.set_cons_succ]
      refine hg_skip 14 rfl (by rfl) (by kernel_rfl) (by kernel_rfl) (by kernel_rfl) (fun _ _ _ h => h) hS ?_
      simp only [List.getElem_toArray, List.getElem_cons_succ, List.getElem_cons_zero, Act.put, List.setIfInBounds_toArray, List.set_cons_zero, List.set_cons_succ]
      refine hg_skip 15 rfl (by rfl) (by kernel_rfl) (by kernel_rfl) (by kernel_rfl) (fun _ _ _ h => h) hS ?_
      simp only [List.getElem_toArray, List.getElem_cons_succ, List.getElem_cons_zero, Act.put, List.setIfInBounds_toArray, List.set_cons_zero, List.set_cons_succ]
      refine hg_skip 16 rfl (by rfl) (by kernel_rfl) (by kernel_rfl) (by kernel_rfl) (fun _ _ _ h => h) hS ?_
      simp only [List.getElem_toArray, List.getElem_cons_succ, List.getElem_cons_zero, Act.put, List.setIfInBounds_toArray, List.set_cons_zero, List.set_cons_succ]
      refine hg_skip 17 rfl (by rfl) (by kernel_rfl) (by kernel_rfl) (by kernel_rfl) (fun _ _ _ h => h) hS ?_
      simp only [List.getElem_toArray, List.getElem_cons_succ, List.getElem_cons_zero, Act.put, List.setIfInBounds_toArray, List.set_cons_zero, List.set_cons_succ]
      refine hg_skip 18 rfl (by rfl) (by kernel_rfl) (by kernel_rfl) (by kernel_rfl) (fun _ _ _ h => h) hS ?_
      simp only [List.getElem_toArray, List.getElem_cons_succ, List.getElem_cons_zero, Act.put, List.setIfInBounds_toArray, List.set_cons_zero, List.set_cons_succ]
      refine hg_take 19 (_) rfl (by rfl) (by kernel_rfl) (by kernel_rfl) (by kernel_rfl) (fun _ _ _ h => h) (fun w hw => by go_simp <;> rfl) hS ?_
      simp only [List.getElem_toArray, List.getElem_cons_succ, List.getElem_cons_zero, Act.put, List.setIfInBounds_toArray, List.set_cons_zero, List.set_cons_succ]
      refine hd_take 20 (_) rfl rfl (by kernel_rfl) (by kernel_rfl) (by kernel_rfl) (fun _ _ _ h => h) (fun w hw => by go_simp <;> rfl) hS ?_
      simp only [List.getElem_toArray, List.getElem_cons_succ, List.getElem_cons_zero, Act.put, List.setIfInBounds_toArray, List.set_cons_zero, List.set_cons_succ]
      refine wpAnyH_done (by kernel_rfl) (NoPanic.normal ?_) _
      have F22' := F21.out.drew
      obtain ⟨w22, hw22⟩ : ∃ W, W = w21.drew := ⟨_, rfl⟩
      rw [← hw22] at F22' ⊢
      have F22 := Lib.hid F22'
      clear F22' hw22 hS
      have HSL : Hid ((([2] : List UInt8) ++ V).length = 17) := by unfold Hid; simp [HVL.out]
      have HTL : Hid ((([2] : List UInt8) ++ kn).length = 17) := by unfold Hid; simp [HKN.out]
      have HS1 : Hid ((([2] : List UInt8) ++ V ++ half).length = 17 + k) := by unfold Hid; simp [HVL.out, HHN.out]; omega
      have HT1 : Hid ((([2] : List UInt8) ++ kn ++ hv).length = 17 + k) := by unfold Hid; simp [HKN.out, HVN.out]; omega
      go_wp2_with (first | (at_builtin; (first | rw [show (#[.int .u8 2] : Array Value) = (cellsB [2]).toArray from rfl] | skip); refine wpList_append_bytes _ rfl (.tmp 180) (.tmp 181) rfl w22.heap.size (some ⟨w22.heap.size, 0, none⟩) 1 1 [2] rfl rfl (OB.lit _ w22 [2] (Nat.le_refl _) (by simp) rfl) (some ⟨w0.heap.size + 1 + 1 + 1, 0, none⟩) 16 16 V HVL.out rfl (((HXV.out _ (HKW.out _ F22.out)).below' (alloc_bel w22 _)).src HVL.out) (by omega) (by simp) ?_; intro A6 c6 w23 hon hbl hg; have O6 := Lib.hid hon; have E6 := Lib.hid ((alloc_bel w22 _).trans hbl); clear hon hbl hg) | (at_builtin; refine wpList_append_bytes _ rfl (.tmp 182) (.tmp 183) rfl w22.heap.size A6 17 c6 ([2] ++ V) HSL.out rfl O6.out Hh k ch half HHN.out rfl ((HBH.out _ (HKW.out _ (bel_on F22.out E6.out))).src HHN.out) (by omega) E6.out.size ?_; intro A7 c7 w24 hon hbl hg; have O7 := Lib.hid hon; have F24 := Lib.hid (bel_on F22.out (E6.out.trans hbl)); clear hon hbl hg))
      --MARK 6
      refine wp_region_noPanic ?_
      refine wp_region_held_drew (S := fun W' => Below w5.heap.size w5 W') (by kernel_rfl) F24.out.drew (fun hS => ?_)
      refine hd_take 1 (_) rfl rfl (by kernel_rfl) (by kernel_rfl) (by kernel_rfl) (fun _ _ _ h => h) (fun w hw => by go_simp <;> rfl) hS ?_
      simp only [List.getElem_toArray, List.getElem_cons_succ, List.getElem_cons_zero, Act.put, List.setIfInBounds_toArray, List.set_cons_zero, List.set_cons_succ]
      refine hd_take 2 (.slice (some ⟨bN, oN, none⟩) n a) rfl rfl (by kernel_rfl) (by kernel_rfl) (by kernel_rfl) (fun _ _ _ h => h) (fun w hw => by have hx := (HC21.out _ hw).1; simp [go_sem, hx]) hS ?_
      simp only [List.getElem_toArray, List.getElem_cons_succ, List.getElem_cons_zero, Act.put, List.setIfInBounds_toArray, List.set_cons_zero, List.set_cons_succ]
      refine hd_take 3 (_) rfl rfl (by kernel_rfl) (by kernel_rfl) (by kernel_rfl) (fun _ _ _ h => h) (fun w hw => by go_simp <;> rfl) hS ?_
      simp only [List.getElem_toArray, List.getElem_cons_succ, List.getElem_cons_zero, Act.put, List.setIfInBounds_toArray, List.set_cons_zero, List.set_cons_succ]
      refine hd_take 4 (_) rfl rfl (by kernel_rfl) (by kernel_rfl) (by kernel_rfl) (fun _ _ _ h => h) (fun w hw => by go_simp <;> rfl) hS ?_
      simp only [List.getElem_toArray, List.getElem_cons_succ, List.getElem_cons_zero, Act.put, List.setIfInBounds_toArray, List.set_cons_zero, List.set_cons_succ]
      refine hd_take 5 (_) rfl rfl (by kernel_rfl) (by kernel_rfl) (by kernel_rfl) (fun _ _ _ h => h) (fun w hw => by go_simp <;> rfl) hS ?_
      simp only [List.getElem_toArray, List.getElem_cons_succ, List.getElem_cons_zero, Act.put, List.setIfInBounds_toArray, List.set_cons_zero, List.set_cons_succ]
      refine hd_take 7 (_) rfl rfl (by kernel_rfl) (by kernel_rfl) (by kernel_rfl) (fun _ _ _ h => h) (fun w hw => by go_simp <;> rfl) hS ?_
      simp only [List.getElem_toArray, List.getElem_cons_succ, List.getElem_cons_zero, Act.put, List.setIfInBounds_toArray, List.set_cons_zero, List.set_cons_succ]
      refine hd_take 8 (_) rfl rfl (by kernel_rfl) (by kernel_rfl) (by kernel_rfl) (fun _ _ _ h => h) (fun w hw => by go_simp <;> rfl) hS ?_
      simp only [List.getElem_toArray, List.getElem_cons_succ, List.getElem_cons_zero, Act.put, List.setIfInBounds_toArray, List.set_cons_zero, List.set_cons_succ]
      refine hd_take 9 (_) rfl rfl (by kernel_rfl) (by kernel_rfl) (by kernel_rfl) (fun _ _ _ h => h) (fun w hw => by go_simp <;> rfl) hS ?_
      simp only [List.getElem_toArray, List.getElem_cons_succ, List.getElem_cons_zero, Act.put, List.setIfInBounds_toArray, List.set_cons_zero, List.set_cons_succ]
      refine hd_take 10 (.slice Xj k xj) rfl rfl (by kernel_rfl) (by kernel_rfl) (by kernel_rfl) (fun _ _ _ h => h) (fun w hw => by have hx := (HRJ.out _ (HKW.out _ hw)).1; simp [go_sem, hx]) hS ?_
      simp only [List.getElem_toArray, List.getElem_cons_succ, List.getElem_cons_zero, Act.put, List.setIfInBounds_toArray, List.set_cons_zero, List.set_cons_succ]
      --MARK 7
      have d0 : Below w24.heap.size w24 (w24.drew.alloc (.cells (cellsB [2]).toArray 5)) := bel_on (Below.refl _ _).drew (alloc_bel w24.drew _)
      refine hd_sole 0 (by kernel_rfl) (op_run (.slice (some ⟨w24.heap.size, 0, none⟩) 1 1) (w24.drew.alloc (.cells (cellsB [2]).toArray 5)) rfl rfl (by go_simp <;> rfl) ⟨bel_on F24.out d0, ?_⟩)
      simp only [List.getElem_toArray, List.getElem_cons_succ, List.getElem_cons_zero, Act.put, List.setIfInBounds_toArray, List.set_cons_zero, List.set_cons_succ]
      refine hd_appB 6 (.tmp 185) (.tmp 190) rfl rfl rfl (by kernel_rfl) w24.heap.size (some ⟨w24.heap.size, 0, none⟩) 1 1 [2] rfl rfl (OB.lit _ w24.drew [2] (Nat.le_refl _) (by simp) rfl) (some ⟨bN, oN + j * 16, none⟩) 16 16 kn HKN.out rfl (range_src (HKR.out _ (bel_on F24.out d0)).1 HKN.out) (by omega) d0.size ?_
      intro A8 c8 w26 hon8 hbl8
      have d1 := d0.trans hbl8
      refine ⟨bel_on F24.out d1, ?_⟩
      simp only [List.getElem_toArray, List.getElem_cons_succ, List.getElem_cons_zero, Act.put, List.setIfInBounds_toArray, List.set_cons_zero, List.set_cons_succ]
      refine hd_appB 11 (.tmp 191) (.tmp 195) rfl rfl rfl (by kernel_rfl) w24.heap.size A8 17 c8 ([2] ++ kn) HTL.out rfl hon8 Xj k xj hv HVN.out rfl ((HRJ.out _ (HKW.out _ (bel_on F24.out d1))).2.src HVN.out) (by omega) d1.size ?_
      intro A9 c9 w27 hon9 hbl9
      have d2 := d1.trans hbl9
      have F27 : Hid (Below w5.heap.size w5 w27) := bel_on F24.out d2
      refine ⟨F27.out, ?_⟩
      simp only [List.getElem_toArray, List.getElem_cons_succ, List.getElem_cons_zero, Act.put, List.setIfInBounds_toArray, List.set_cons_zero, List.set_cons_succ]
      refine hd_take 12 (_) rfl rfl (by kernel_rfl) (by kernel_rfl) (by kernel_rfl) (fun _ _ _ h => h) (fun w hw => by go_simp <;> rfl) F27.out ?_
      simp only [List.getElem_toArray, List.getElem_cons_succ, List.getElem_cons_zero, Act.put, List.setIfInBounds_toArray, List.set_cons_zero, List.set_cons_succ]
      refine wpAnyH_done (by kernel_rfl) (NoPanic.normal ?_) _
      have R1 : Hid (BR w27 A7 c7 ([2] ++ V ++ half)) := (O7.out.below d2).br (by rw [HS1.out]; omega)
      have R2 : Hid (BR w27 A9 c9 ([2] ++ kn ++ hv)) := hon9.br (by rw [HT1.out]; omega)
      have HCC := Lib.hid (clash2_any A7 c7 ([2] ++ V ++ half) A9 c9 ([2] ++ kn ++ hv) w27 HS1.out HT1.out R1.out R2.out (by omega) (by omega) HCL2.out)
      clear d0 d1 d2 hbl8 hbl9 hon8 hon9 hS
      go_wp2_with (first | (go_at_call 14; (with_reducible refine HCC.out.mono ?_); rintro e w28 ⟨rfl, hb28⟩; have F28 := Lib.hid (bel_on F27.out hb28); clear hb28))
      go_ret
      exact ⟨by simp, bel_on b0.out (HKW.out _ F28.out)⟩
end Go.Proofs.YtchnaimpmegbkaaGreatDoor
