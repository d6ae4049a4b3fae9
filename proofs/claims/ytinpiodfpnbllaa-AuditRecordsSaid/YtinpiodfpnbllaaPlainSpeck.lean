/-
  The block cipher in plain words: rounds, round keys, blocks; undoing it.
-/
namespace Go.Proofs.Ytinpiodfpnbllaa
set_option linter.unusedVariables false

abbrev W2 := UInt64 × UInt64
def rotr8 (x : UInt64) : UInt64 := x >>> 8 ||| x <<< 56
def rotl8 (x : UInt64) : UInt64 := x <<< 8 ||| x >>> 56
def rotl3 (x : UInt64) : UInt64 := x <<< 3 ||| x >>> 61
def rotr3 (x : UInt64) : UInt64 := x >>> 3 ||| x <<< 61
theorem or_add (m : Nat) {a b : Nat} (hb : b < 2 ^ m) : a * 2 ^ m ||| b = a * 2 ^ m + b := by
  have := Nat.two_pow_add_eq_or_of_lt (i := m) (b := b) hb a
  rw [Nat.mul_comm a, ← this]
theorem toNat_rotr8 (x : UInt64) : (rotr8 x).toNat = (x.toNat % 256) * 72057594037927936 + x.toNat / 256 := by
  have h := x.toNat_lt
  simp only [rotr8, UInt64.toNat_or, UInt64.toNat_shiftRight, UInt64.toNat_shiftLeft]
  rw [show (8 : UInt64).toNat % 64 = 8 from rfl, show (56 : UInt64).toNat % 64 = 56 from rfl, Nat.shiftRight_eq_div_pow, Nat.shiftLeft_eq, Nat.or_comm]
  rw [show x.toNat * 2 ^ 56 % 2 ^ 64 = (x.toNat % 256) * 2 ^ 56 from by omega, or_add 56 (by omega)]
theorem toNat_rotl8 (x : UInt64) : (rotl8 x).toNat = (x.toNat % 72057594037927936) * 256 + x.toNat / 72057594037927936 := by
  have h := x.toNat_lt
  simp only [rotl8, UInt64.toNat_or, UInt64.toNat_shiftRight, UInt64.toNat_shiftLeft]
  rw [show (8 : UInt64).toNat % 64 = 8 from rfl, show (56 : UInt64).toNat % 64 = 56 from rfl, Nat.shiftRight_eq_div_pow, Nat.shiftLeft_eq]
  rw [show x.toNat * 2 ^ 8 % 2 ^ 64 = (x.toNat % 2 ^ 56) * 2 ^ 8 from by omega, or_add 8 (by omega)]
theorem toNat_rotl3 (x : UInt64) : (rotl3 x).toNat = (x.toNat % 2305843009213693952) * 8 + x.toNat / 2305843009213693952 := by
  have h := x.toNat_lt
  simp only [rotl3, UInt64.toNat_or, UInt64.toNat_shiftRight, UInt64.toNat_shiftLeft]
  rw [show (3 : UInt64).toNat % 64 = 3 from rfl, show (61 : UInt64).toNat % 64 = 61 from rfl, Nat.shiftRight_eq_div_pow, Nat.shiftLeft_eq]
  rw [show x.toNat * 2 ^ 3 % 2 ^ 64 = (x.toNat % 2 ^ 61) * 2 ^ 3 from by omega, or_add 3 (by omega)]
theorem toNat_rotr3 (x : UInt64) : (rotr3 x).toNat = (x.toNat % 8) * 2305843009213693952 + x.toNat / 8 := by
  have h := x.toNat_lt
  simp only [rotr3, UInt64.toNat_or, UInt64.toNat_shiftRight, UInt64.toNat_shiftLeft]
  rw [show (3 : UInt64).toNat % 64 = 3 from rfl, show (61 : UInt64).toNat % 64 = 61 from rfl, Nat.shiftRight_eq_div_pow, Nat.shiftLeft_eq, Nat.or_comm]
  rw [show x.toNat * 2 ^ 61 % 2 ^ 64 = (x.toNat % 8) * 2 ^ 61 from by omega, or_add 61 (by omega)]
theorem rotl8_rotr8 (x : UInt64) : rotl8 (rotr8 x) = x := by
  apply UInt64.toNat_inj.1
  have h := x.toNat_lt
  rw [toNat_rotl8, toNat_rotr8]
  omega
theorem rotr3_rotl3 (x : UInt64) : rotr3 (rotl3 x) = x := by
  apply UInt64.toNat_inj.1
  have h := x.toNat_lt
  rw [toNat_rotr3, toNat_rotl3]
  omega
theorem rotr8_rotl8 (x : UInt64) : rotr8 (rotl8 x) = x := by
  apply UInt64.toNat_inj.1
  have h := x.toNat_lt
  rw [toNat_rotr8, toNat_rotl8]
  omega
theorem rotl3_rotr3 (x : UInt64) : rotl3 (rotr3 x) = x := by
  apply UInt64.toNat_inj.1
  have h := x.toNat_lt
  rw [toNat_rotl3, toNat_rotr3]
  omega

/-- A round, and back. -/
def rnd (k : UInt64) (p : W2) : W2 := ((rotr8 p.1 + p.2) ^^^ k, rotl3 p.2 ^^^ ((rotr8 p.1 + p.2) ^^^ k))
def bck (k : UInt64) (p : W2) : W2 := (rotl8 ((p.1 ^^^ k) - rotr3 (p.1 ^^^ p.2)), rotr3 (p.1 ^^^ p.2))
theorem xor_xor_self (a b : UInt64) : a ^^^ (b ^^^ a) = b := by rw [UInt64.xor_comm b a, ← UInt64.xor_assoc, UInt64.xor_self, UInt64.zero_xor]
theorem xor_xor_right (a b : UInt64) : (a ^^^ b) ^^^ b = a := by rw [UInt64.xor_assoc, UInt64.xor_self, UInt64.xor_zero]
theorem bck_rnd (k : UInt64) (p : W2) : bck k (rnd k p) = p := by
  obtain ⟨x, y⟩ := p
  simp only [bck, rnd]
  rw [xor_xor_self, xor_xor_right, rotr3_rotl3, UInt64.add_sub_cancel, rotl8_rotr8]
theorem rnd_bck (k : UInt64) (p : W2) : rnd k (bck k p) = p := by
  obtain ⟨x, y⟩ := p
  simp only [bck, rnd]
  rw [rotr8_rotl8, UInt64.sub_add_cancel, xor_xor_right, rotl3_rotr3, UInt64.xor_comm x y, xor_xor_right]

/-- The state of the round keys after i rounds. -/
def ksS (k : W2) : Nat → W2
  | 0 => k
  | i + 1 => rnd (UInt64.ofNat i) (ksS k i)
/-- The words after i rounds. -/
def enW (k p : W2) : Nat → W2
  | 0 => p
  | i + 1 => rnd (ksS k i).2 (enW k p i)
/-- The words when the last i of 32 rounds have been undone. -/
def deW (k p : W2) : Nat → W2
  | 0 => p
  | i + 1 => bck (ksS k (31 - i)).2 (deW k p i)
theorem deW_enW (k p : W2) (i : Nat) (h : i ≤ 32) : deW k (enW k p 32) i = enW k p (32 - i) := by
  induction i with
  | zero => rfl
  | succ i ih =>
    rw [deW, ih (by omega), show 32 - i = (31 - i) + 1 from by omega, enW, bck_rnd]
    congr 1
    omega

/-- The number in some bytes, the highest first. -/
def wd (l : List UInt8) : UInt64 := l.foldl (fun n b => 256 * n + b.toUInt64) 0
/-- The bytes of a word, the highest first. -/
def by8 (x : UInt64) : List UInt8 := [(x >>> 56).toUInt8, (x >>> 48).toUInt8, (x >>> 40).toUInt8, (x >>> 32).toUInt8, (x >>> 24).toUInt8, (x >>> 16).toUInt8, (x >>> 8).toUInt8, x.toUInt8]
theorem by8_length (x : UInt64) : (by8 x).length = 8 := rfl
theorem wd_snoc (l : List UInt8) (b : UInt8) : wd (l ++ [b]) = 256 * wd l + b.toUInt64 := by simp [wd]
theorem shl8_or (n : UInt64) (b : UInt8) : n <<< 8 ||| b.toUInt64 = 256 * n + b.toUInt64 := by
  apply UInt64.toNat_inj.1
  have h := n.toNat_lt
  have h2 := b.toNat_lt
  simp only [UInt64.toNat_or, UInt64.toNat_shiftLeft, UInt64.toNat_add, UInt64.toNat_mul, UInt8.toNat_toUInt64]
  rw [show (8 : UInt64).toNat % 64 = 8 from rfl, show (256 : UInt64).toNat = 256 from rfl, Nat.shiftLeft_eq]
  rw [show n.toNat * 2 ^ 8 % 2 ^ 64 = (n.toNat % 2 ^ 56) * 2 ^ 8 from by omega, or_add 8 (by omega)]
  omega
theorem toNat_shr (x : UInt64) (k : Nat) (hk : k < 64) : (x >>> (UInt64.ofNat k)).toNat = x.toNat / 2 ^ k := by
  rw [UInt64.toNat_shiftRight, Nat.shiftRight_eq_div_pow]
  simp [UInt64.toNat_ofNat', Nat.mod_eq_of_lt (show k < 18446744073709551616 by omega), Nat.mod_eq_of_lt hk]
theorem wd_by8 (x : UInt64) : wd (by8 x) = x := by
  apply UInt64.toNat_inj.1
  have h := x.toNat_lt
  have t : ∀ k, k < 64 → (x >>> (UInt64.ofNat k)).toNat = x.toNat / 2 ^ k := toNat_shr x
  have t1 := t 56 (by omega)
  have t2 := t 48 (by omega)
  have t3 := t 40 (by omega)
  have t4 := t 32 (by omega)
  have t5 := t 24 (by omega)
  have t6 := t 16 (by omega)
  have t7 := t 8 (by omega)
  simp only [wd, by8, List.foldl, UInt64.toNat_add, UInt64.toNat_mul, UInt8.toNat_toUInt64, UInt64.toNat_toUInt8]
  simp only [show (UInt64.ofNat 56) = 56 from rfl, show (UInt64.ofNat 48) = 48 from rfl, show (UInt64.ofNat 40) = 40 from rfl, show (UInt64.ofNat 32) = 32 from rfl, show (UInt64.ofNat 24) = 24 from rfl, show (UInt64.ofNat 16) = 16 from rfl, show (UInt64.ofNat 8) = 8 from rfl] at t1 t2 t3 t4 t5 t6 t7
  rw [t1, t2, t3, t4, t5, t6, t7, show (256 : UInt64).toNat = 256 from rfl, show (0 : UInt64).toNat = 0 from rfl]
  omega
theorem wd_toNat (l : List UInt8) : (wd l).toNat = l.foldl (fun n b => 256 * n + b.toNat) 0 % 18446744073709551616 := by
  suffices ∀ (l : List UInt8) (a : UInt64) (m : Nat), a.toNat = m % 18446744073709551616 → (l.foldl (fun n b => 256 * n + b.toUInt64) a).toNat = l.foldl (fun n b => 256 * n + b.toNat) m % 18446744073709551616 from this l 0 0 rfl
  intro l
  induction l with
  | nil => exact fun a m h => h
  | cons b l ih =>
    intro a m h
    refine ih _ _ ?_
    simp only [UInt64.toNat_add, UInt64.toNat_mul, UInt8.toNat_toUInt64]
    rw [h, show (256 : UInt64).toNat = 256 from rfl]
    have := b.toNat_lt
    omega
theorem by8_wd (a b c d e f g h : UInt8) : by8 (wd [a, b, c, d, e, f, g, h]) = [a, b, c, d, e, f, g, h] := by
  have ha := a.toNat_lt
  have hb := b.toNat_lt
  have hc := c.toNat_lt
  have hd := d.toNat_lt
  have he := e.toNat_lt
  have hf := f.toNat_lt
  have hg := g.toNat_lt
  have hh := h.toNat_lt
  have hw := wd_toNat [a, b, c, d, e, f, g, h]
  simp only [List.foldl] at hw
  generalize wd [a, b, c, d, e, f, g, h] = x at hw
  have t := toNat_shr x
  have t1 := t 56 (by omega)
  have t2 := t 48 (by omega)
  have t3 := t 40 (by omega)
  have t4 := t 32 (by omega)
  have t5 := t 24 (by omega)
  have t6 := t 16 (by omega)
  have t7 := t 8 (by omega)
  simp only [show (UInt64.ofNat 56) = 56 from rfl, show (UInt64.ofNat 48) = 48 from rfl, show (UInt64.ofNat 40) = 40 from rfl, show (UInt64.ofNat 32) = 32 from rfl, show (UInt64.ofNat 24) = 24 from rfl, show (UInt64.ofNat 16) = 16 from rfl, show (UInt64.ofNat 8) = 8 from rfl] at t1 t2 t3 t4 t5 t6 t7
  unfold by8
  simp only [List.cons.injEq, and_true, ← UInt8.toNat_inj, UInt64.toNat_toUInt8, t1, t2, t3, t4, t5, t6, t7]
  refine ⟨?_, ?_, ?_, ?_, ?_, ?_, ?_, ?_⟩ <;> omega

/-- The words of a block; the block of two words. -/
def wds (b : List UInt8) : W2 := (wd (b.take 8), wd (b.drop 8))
def blk (p : W2) : List UInt8 := by8 p.1 ++ by8 p.2
theorem blk_length (p : W2) : (blk p).length = 16 := rfl
theorem wds_blk (p : W2) : wds (blk p) = p := by
  obtain ⟨x, y⟩ := p
  show (wd (by8 x), wd (by8 y)) = (x, y)
  rw [wd_by8, wd_by8]
theorem blk_wds {b : List UInt8} (h : b.length = 16) : blk (wds b) = b := by
  match b, h with
  | [b0, b1, b2, b3, b4, b5, b6, b7, b8, b9, b10, b11, b12, b13, b14, b15], _ =>
    show by8 (wd [b0, b1, b2, b3, b4, b5, b6, b7]) ++ by8 (wd [b8, b9, b10, b11, b12, b13, b14, b15]) = _
    rw [by8_wd, by8_wd]
    rfl
def encS (k b : List UInt8) : List UInt8 := blk (enW (wds k) (wds b) 32)
def decS (k b : List UInt8) : List UInt8 := blk (deW (wds k) (wds b) 32)
theorem encS_length (k b : List UInt8) : (encS k b).length = 16 := rfl
theorem decS_length (k b : List UInt8) : (decS k b).length = 16 := rfl
theorem decS_encS (k : List UInt8) {b : List UInt8} (h : b.length = 16) : decS k (encS k b) = b := by
  unfold decS encS
  rw [wds_blk, deW_enW _ _ _ (by omega)]
  exact blk_wds h
/-- The block of a tag, a counter and a number; what is derived; a number below most. -/
def tagS (t : UInt8) (c n : UInt64) : List UInt8 := blk (t.toUInt64 <<< 56 ||| c, n)
def derS (k : List UInt8) (t : UInt8) (n : UInt64) : List UInt8 := encS k (tagS t 0 n)
def numS (k : List UInt8) (n most : UInt64) : UInt64 := if most = 0 then 0 else (wds (derS k 3 n)).1 % most
end Go.Proofs.Ytinpiodfpnbllaa
