/- A part of the claim. -/
import Derived.Test.YtbbnagjfjgkgjaaKALx9
import Derived.Test.YtbbnagjfjgkgjaaKALx10
import Derived.Test.YtbbnagjfjgkgjaaKALx11
import Derived.Test.YtbbnagjfjgkgjaaKALx20
import Derived.Test.YtbbnagjfjgkgjaaKAMath
import Derived.Laws.BitsAllLaws
namespace Go.Proofs.Ytbbnagjfjgkgjaa.Ev
open Go.RowKit Go.Proofs.Ytbbnagjfjgkgjaa.L Go.Proofs.Ytbbnagjfjgkgjaa.Math Go.Proofs.YtbbnagjfjgkgjaaW.PrintWords Go.Proofs.YtbbnagjfjgkgjaaW.PrintLast Go.Proofs.YtbbnagjfjgkgjaaW.PrintMore

theorem wr {x : Int} (h0 : -9223372036854775808 ≤ x) (h1 : x < 9223372036854775808) : wrap64 x = x := by
  unfold wrap64
  omega
theorem wrn (n : Nat) (h1 : n < 9223372036854775808) : wrap64 (n : Int) = n := wr (by omega) (by omega)
theorem wu {x : Int} (h0 : 0 ≤ x) (h1 : x < 18446744073709551616) : IntKind.u64.wrap x = x := by
  rw [IntKind.wrap_u64]
  omega

theorem shl_nat (v d : Nat) (hd : d ≤ 64) (h : v * 2 ^ d < 9223372036854775808) : shl .i64 (v : Int) (d : Int) = ((v <<< d : Nat) : Int) := by
  unfold shl
  rw [i64_w, show min (d : Int).toNat IntKind.i64.bits = d by simp [IntKind.bits]; omega]
  have e : (v : Int) * 2 ^ d = ((v * 2 ^ d : Nat) : Int) := by simp
  rw [e, wrn _ h, Nat.shiftLeft_eq]

theorem one_shl (n : Nat) (h : n ≤ 40) : shl .i64 1 (n : Int) = ((2 ^ n : Nat) : Int) := by
  have hp : 2 ^ n ≤ 2 ^ 40 := Nat.pow_le_pow_right (by decide) h
  have := shl_nat 1 n (by omega) (by omega)
  rw [Nat.shiftLeft_eq, Nat.one_mul] at this
  exact this

theorem toNat_i64 (a : Nat) (ha : a < 9223372036854775808) : (BitVec.ofInt 64 (a : Int)).toNat = a := by
  rw [BitVec.ofInt_natCast, BitVec.toNat_ofNat]; exact Nat.mod_eq_of_lt (by omega)

theorem xor_nat (a b : Nat) (ha : a < 9223372036854775808) (hb : b < 9223372036854775808) : Go.bits .xor .i64 (a : Int) (b : Int) = ((a ^^^ b : Nat) : Int) := by
  have hx : a ^^^ b < 2 ^ 63 := Nat.xor_lt_two_pow (by omega) (by omega)
  show IntKind.i64.wrap ((BitVec.ofInt 64 (a : Int) ^^^ BitVec.ofInt 64 (b : Int)).toNat : Int) = _
  rw [BitVec.toNat_xor, toNat_i64 a ha, toNat_i64 b hb, i64_w, wrn _ (by omega)]
theorem or_nat (a b : Nat) (ha : a < 9223372036854775808) (hb : b < 9223372036854775808) : Go.bits .or .i64 (a : Int) (b : Int) = ((a ||| b : Nat) : Int) := by
  have hx : a ||| b < 2 ^ 63 := Nat.or_lt_two_pow (by omega) (by omega)
  show IntKind.i64.wrap ((BitVec.ofInt 64 (a : Int) ||| BitVec.ofInt 64 (b : Int)).toNat : Int) = _
  rw [BitVec.toNat_or, toNat_i64 a ha, toNat_i64 b hb, i64_w, wrn _ (by omega)]
theorem and_nat (a b : Nat) (ha : a < 9223372036854775808) (hb : b < 9223372036854775808) : Go.bits .and .i64 (a : Int) (b : Int) = ((a &&& b : Nat) : Int) := by
  have hx : a &&& b < 2 ^ 63 := Nat.and_lt_two_pow a (by omega)
  show IntKind.i64.wrap ((BitVec.ofInt 64 (a : Int) &&& BitVec.ofInt 64 (b : Int)).toNat : Int) = _
  rw [BitVec.toNat_and, toNat_i64 a ha, toNat_i64 b hb, i64_w, wrn _ (by omega)]
theorem uand_nat (a b : Nat) (ha : a < 18446744073709551616) (hb : b < 18446744073709551616) : Go.bits .and .u64 (a : Int) (b : Int) = ((a &&& b : Nat) : Int) := by
  have hx : a &&& b < 2 ^ 64 := Nat.and_lt_two_pow a (by omega)
  have t : ∀ n : Nat, n < 18446744073709551616 → (BitVec.ofInt 64 (n : Int)).toNat = n := fun n hn => by
    rw [BitVec.ofInt_natCast, BitVec.toNat_ofNat]; exact Nat.mod_eq_of_lt (by omega)
  show IntKind.u64.wrap ((BitVec.ofInt 64 (a : Int) &&& BitVec.ofInt 64 (b : Int)).toNat : Int) = _
  rw [BitVec.toNat_and, t a ha, t b hb, wu (by omega) (by omega)]

theorem bitLenAux_up : ∀ (f x : Nat), x < 2 ^ f → x < 2 ^ Lib.bitLenAux f x ∧ (x ≠ 0 → 2 ^ Lib.bitLenAux f x ≤ 2 * x)
  | 0, x, h => by simp at h; subst h; simp [Lib.bitLenAux]
  | f + 1, x, h => by
    simp only [Lib.bitLenAux]
    by_cases h0 : x = 0
    · subst h0; simp
    · rw [if_neg h0]
      have ih := bitLenAux_up f (x / 2) (by rw [Nat.pow_succ] at h; omega)
      rw [Nat.add_comm 1, Nat.pow_succ]
      refine ⟨by omega, fun _ => ?_⟩
      by_cases h2 : x / 2 = 0
      · rw [h2] at ih ⊢
        have e : Lib.bitLenAux f 0 = 0 := by cases f <;> simp [Lib.bitLenAux]
        rw [e]
        simp
        omega
      · have := ih.2 h2
        omega
theorem bitLen_bounds (x : Nat) (h : x < 2 ^ 64) : x < 2 ^ Lib.bitLen x ∧ (x ≠ 0 → 2 ^ Lib.bitLen x ≤ 2 * x) := bitLenAux_up 64 x h
theorem bitLen_of (x n : Nat) (h0 : 2 ^ n ≤ x) (h1 : x < 2 ^ (n + 1)) (hn : n < 64) : Lib.bitLen x = n + 1 := by
  have hx : x < 2 ^ 64 := Nat.lt_of_lt_of_le h1 (Nat.pow_le_pow_right (by decide) (by omega))
  have hp := Nat.two_pow_pos n
  obtain ⟨a, b⟩ := bitLen_bounds x hx
  have b := b (by omega)
  have h1' : Lib.bitLen x ≤ n + 1 := Lib.bitLen_le x (n + 1) (by omega) h1
  have h2 : ¬ Lib.bitLen x ≤ n := fun h => by
    have := Nat.pow_le_pow_right (n := 2) (by decide) h
    omega
  omega

theorem Len_nat (x : Nat) (h : x < 9223372036854775808) : bits_Len.f (IntKind.u64.wrap (x : Int)) = some (Lib.bitLen x : Int) := by
  rw [wu (by omega) (by omega)]
  unfold bits_Len.f bits_Len64.f
  rw [if_pos (by omega), if_pos (by omega)]
  simp

structure Code (k g d : Nat) : Prop where
  k1 : 1 ≤ k
  k12 : k ≤ 12
  g3 : 3 ≤ g
  g19 : g < 524288
  odd : g % 2 = 1
  lo : 2 ^ d ≤ g
  hi : g < 2 ^ (d + 1)
  d1 : 1 ≤ d
  d18 : d ≤ 18
theorem Code.len {k g d : Nat} (c : Code k g d) : Lib.bitLen g = d + 1 := bitLen_of g d c.lo c.hi (by have := c.d18; omega)
theorem Code.kd {k g d : Nat} (c : Code k g d) : k + d ≤ 31 := by have := c.k12; have := c.d18; omega
theorem degree_nat {k g d : Nat} (c : Code k g d) : bch_degree.f (g : Int) = some (d : Int) := by
  have := c.g19; have := c.d18
  unfold bch_degree.f
  rw [Len_nat g (by omega), c.len]
  simp only [Option.bind_some]
  rw [wr (by omega) (by omega)]
  congr 1
  omega

theorem codeword_l0 {kk g d : Nat} (c : Code kk g d) (word : Nat) (hw : word < 2147483648) : ∀ (j r k : Nat), d + j ≤ 31 → r < 2 ^ (d + j) → j < k →
    bch_codeword.l0 k (g : Int) (d : Int) (word : Int) (r : Int) = some ((word ||| remN g d j r : Nat) : Int) := by
  have hd := c.d18
  intro j
  induction j with
  | zero =>
    intro r k _ hr hk
    obtain ⟨k, rfl⟩ : ∃ m, k = m + 1 := ⟨k - 1, by omega⟩
    have hr31 : r < 2 ^ 31 := Nat.lt_of_lt_of_le hr (Nat.pow_le_pow_right (by decide) (by omega))
    have hl : Lib.bitLen r ≤ d := Lib.bitLen_le r d (by omega) hr
    simp only [bch_codeword.l0]
    rw [Len_nat r (by omega)]
    simp only [Option.bind_some]
    have e1 : wrap64 ((Lib.bitLen r : Int) - 1) = (Lib.bitLen r : Int) - 1 := wr (by omega) (by omega)
    have e2 : wrap64 ((Lib.bitLen r : Int) - 1 - d) = (Lib.bitLen r : Int) - 1 - d := wr (by omega) (by omega)
    rw [e1, e2, if_pos (by omega), or_nat word r (by omega) (by omega)]
    rfl
  | succ j ih =>
    intro r k hj hr hk
    by_cases hb : r.testBit (d + j) = true
    · have hs := step_lt g d j r c.lo c.hi hr hb
      have hlow : 2 ^ (d + j) ≤ r := Nat.ge_two_pow_of_testBit hb
      have hlen : Lib.bitLen r = d + j + 1 := bitLen_of r (d + j) hlow hr (by omega)
      have hr31 : r < 2 ^ 31 := Nat.lt_of_lt_of_le hr (Nat.pow_le_pow_right (by decide) (by omega))
      have hg31 : g * 2 ^ j < 2 ^ 32 := by
        have h1 : g * 2 ^ j < 2 ^ (d + 1) * 2 ^ j := Nat.mul_lt_mul_of_pos_right c.hi (Nat.two_pow_pos j)
        rw [← Nat.pow_add] at h1
        exact Nat.lt_of_lt_of_le h1 (Nat.pow_le_pow_right (by decide) (by omega))
      obtain ⟨k, rfl⟩ : ∃ m, k = m + 1 := ⟨k - 1, by omega⟩
      simp only [bch_codeword.l0]
      rw [Len_nat r (by omega), hlen]
      simp only [Option.bind_some]
      have e1 : wrap64 (((d + j + 1 : Nat) : Int) - 1) = ((d + j : Nat) : Int) := by rw [wr (by omega) (by omega)]; omega
      have e2 : wrap64 (((d + j : Nat) : Int) - d) = (j : Int) := by rw [wr (by omega) (by omega)]; omega
      rw [e1, e2, if_neg (by omega), if_pos (by omega), shl_nat g j (by omega) (by omega), xor_nat r (g <<< j) (by omega) (by rw [Nat.shiftLeft_eq]; omega)]
      rw [ih _ k (by omega) hs (by omega)]
      simp only [remN]
      rw [hb]
      simp
    · have hb' : r.testBit (d + j) = false := by simpa using hb
      rw [ih r k (by omega) (low_lt r (d + j) hr hb') (by omega)]
      simp only [remN]
      rw [hb']
      simp

theorem codeword_nat {kk g d : Nat} (c : Code kk g d) (v k : Nat) (hv : v < 2 ^ kk) (hk : 40 ≤ k) : bch_codeword.f k (v : Int) (g : Int) = some ((cw g d v : Nat) : Int) := by
  have hd := c.d18; have h12 := c.k12
  have hs := shl_lt v kk d hv
  have hs31 : v <<< d < 2 ^ 30 := Nat.lt_of_lt_of_le hs (Nat.pow_le_pow_right (by decide) (by omega))
  unfold bch_codeword.f
  rw [degree_nat c]
  simp only [Option.bind_some]
  rw [if_pos (by omega), shl_nat v d (by omega) (by rw [← Nat.shiftLeft_eq]; omega)]
  rw [codeword_l0 c (v <<< d) (by omega) (31 - d) (v <<< d) k (by omega) (Nat.lt_of_lt_of_le hs31 (Nat.pow_le_pow_right (by decide) (by omega))) (by omega)]
  rw [cw_or g d kk v c.lo c.hi c.kd hv]

theorem cw31 {kk g d : Nat} (c : Code kk g d) (v : Nat) (hv : v < 2 ^ kk) : cw g d v < 2 ^ 30 := by
  have := cw_lt g d kk v c.lo c.hi c.kd hv
  exact Nat.lt_of_lt_of_le this (Nat.pow_le_pow_right (by decide) (by have := c.k12; have := c.d18; omega))

end Go.Proofs.Ytbbnagjfjgkgjaa.Ev

/- A part of the claim. -/
namespace Go.Proofs.Ytbbnagjfjgkgjaa.Ev
open Go.RowKit Go.Proofs.Ytbbnagjfjgkgjaa.L Go.Proofs.Ytbbnagjfjgkgjaa.Math Go.Proofs.YtbbnagjfjgkgjaaW.PrintWords Go.Proofs.YtbbnagjfjgkgjaaW.PrintLast Go.Proofs.YtbbnagjfjgkgjaaW.PrintMore

theorem and_byte (A B M m : Nat) (hB : B < 256) (hm : m < 256) : (256 * A + B) &&& (256 * M + m) = 256 * (A &&& M) + (B &&& m) := by
  have h8 : (256 : Nat) = 2 ^ 8 := rfl
  have hBm : B &&& m < 2 ^ 8 := Nat.and_lt_two_pow B hm
  apply Nat.eq_of_testBit_eq
  intro i
  rw [Nat.testBit_and, h8, Nat.testBit_two_pow_mul_add A hB, Nat.testBit_two_pow_mul_add M hm, Nat.testBit_two_pow_mul_add _ hBm]
  split
  · rw [Nat.testBit_and]
  · rw [Nat.testBit_and]

def S1 (A x : Nat) : Nat := (x / 2 &&& A) + (x &&& A)
def S2 (A B x : Nat) : Nat := (S1 A x / 4 &&& B) + (S1 A x &&& B)
def S3 (A B C x : Nat) : Nat := (S2 A B x / 16 + S2 A B x) &&& C

theorem byte1 : ∀ e : Fin 2, ∀ b : Fin 256, ((128 * e.val + b.val / 2) &&& 85) = (b.val / 2 &&& 85) := by decide +kernel
theorem byte1_le : ∀ b : Fin 256, (b.val / 2 &&& 85) + (b.val &&& 85) < 256 := by decide +kernel
theorem byte2 : ∀ e : Fin 4, ∀ b : Fin 256, ((64 * e.val + b.val / 4) &&& 51) = (b.val / 4 &&& 51) := by decide +kernel
def s1 (b : Nat) : Nat := (b / 2 &&& 85) + (b &&& 85)
def s2 (b : Nat) : Nat := (s1 b / 4 &&& 51) + (s1 b &&& 51)
theorem byte3 : ∀ b : Fin 256, ((s2 b.val / 16 + s2 b.val) &&& 15) = wt b.val := by decide +kernel
theorem byte3_le : ∀ b : Fin 256, s2 b.val ≤ 68 := by decide +kernel
theorem wt8 : ∀ b : Fin 256, wt b.val ≤ 8 := by decide +kernel
theorem byte4 : ∀ e : Fin 7, ∀ t : Fin 73, ((16 * e.val + t.val) &&& 15) = (t.val &&& 15) := by decide +kernel

theorem S1_byte (A y b : Nat) (hb : b < 256) : S1 (256 * A + 85) (256 * y + b) = 256 * S1 A y + s1 b := by
  unfold S1 s1
  have e1 : (256 * y + b) / 2 = 256 * (y / 2) + (128 * (y % 2) + b / 2) := by omega
  rw [e1, and_byte _ _ _ _ (by omega) (by decide), and_byte _ _ _ _ hb (by decide)]
  have := byte1 ⟨y % 2, by omega⟩ ⟨b, hb⟩
  simp only at this
  rw [this]
  omega
theorem s1_lt (b : Nat) (hb : b < 256) : s1 b < 256 := byte1_le ⟨b, hb⟩
theorem S2_byte (A B y b : Nat) (hb : b < 256) : S2 (256 * A + 85) (256 * B + 51) (256 * y + b) = 256 * S2 A B y + s2 b := by
  unfold S2 s2
  rw [S1_byte A y b hb]
  have hs := s1_lt b hb
  have e1 : (256 * S1 A y + s1 b) / 4 = 256 * (S1 A y / 4) + (64 * (S1 A y % 4) + s1 b / 4) := by omega
  rw [e1, and_byte _ _ _ _ (by omega) (by decide), and_byte _ _ _ _ hs (by decide)]
  have := byte2 ⟨S1 A y % 4, by omega⟩ ⟨s1 b, hs⟩
  simp only at this
  rw [this]
  omega
theorem and_mod16 (a B : Nat) (hB : B % 16 ≤ 3) : (a &&& B) % 16 ≤ 3 := by
  have h := @Nat.and_mod_two_pow a B 4
  simp only [Nat.reducePow] at h
  rw [h]
  exact Nat.le_trans Nat.and_le_right hB
theorem S2_mod (A B y : Nat) (hB : B % 16 ≤ 3) : S2 A B y % 16 ≤ 6 := by
  unfold S2
  have h1 := and_mod16 (S1 A y / 4) B hB
  have h2 := and_mod16 (S1 A y) B hB
  omega
theorem S3_byte (A B C y b : Nat) (hb : b < 256) (hB : B % 16 ≤ 3) : S3 (256 * A + 85) (256 * B + 51) (256 * C + 15) (256 * y + b) = 256 * S3 A B C y + wt b := by
  unfold S3
  rw [S2_byte A B y b hb]
  have h6 := S2_mod A B y hB
  have h68 := byte3_le ⟨b, hb⟩
  have h3 := byte3 ⟨b, hb⟩
  simp only at h68 h3
  have e1 : (256 * S2 A B y + s2 b) / 16 + (256 * S2 A B y + s2 b) = 256 * (S2 A B y / 16 + S2 A B y) + (16 * (S2 A B y % 16) + (s2 b / 16 + s2 b)) := by omega
  rw [e1, and_byte _ _ _ _ (by omega) (by decide)]
  have h4 := byte4 ⟨S2 A B y % 16, by omega⟩ ⟨s2 b / 16 + s2 b, by omega⟩
  simp only at h4
  rw [h4, h3]
theorem S3_zero (A B C : Nat) : S3 A B C 0 = 0 := by simp [S3, S2, S1]

theorem S3_word (x : Nat) (h : x < 4294967296) : S3 6148914691236517205 3689348814741910323 1085102592571150095 x =
    256 * (256 * (256 * wt (x / 16777216) + wt (x / 65536 % 256)) + wt (x / 256 % 256)) + wt (x % 256) := by
  have e : x = 256 * (256 * (256 * (256 * 0 + x / 16777216) + x / 65536 % 256) + x / 256 % 256) + x % 256 := by omega
  conv => lhs; rw [e]
  have a1 : 6148914691236517205 = 256 * 24019198012642645 + 85 := by decide
  have a2 : 24019198012642645 = 256 * 93824992236885 + 85 := by decide
  have a3 : 93824992236885 = 256 * 366503875925 + 85 := by decide
  have a4 : 366503875925 = 256 * 1431655765 + 85 := by decide
  have b1 : 3689348814741910323 = 256 * 14411518807585587 + 51 := by decide
  have b2 : 14411518807585587 = 256 * 56294995342131 + 51 := by decide
  have b3 : 56294995342131 = 256 * 219902325555 + 51 := by decide
  have b4 : 219902325555 = 256 * 858993459 + 51 := by decide
  have c1 : 1085102592571150095 = 256 * 4238682002231055 + 15 := by decide
  have c2 : 4238682002231055 = 256 * 16557351571215 + 15 := by decide
  have c3 : 16557351571215 = 256 * 64677154575 + 15 := by decide
  have c4 : 64677154575 = 256 * 252645135 + 15 := by decide
  rw [a1, b1, c1, S3_byte _ _ _ _ _ (by omega) (by decide), a2, b2, c2, S3_byte _ _ _ _ _ (by omega) (by decide), a3, b3, c3, S3_byte _ _ _ _ _ (by omega) (by decide), a4, b4, c4, S3_byte _ _ _ _ _ (by omega) (by decide), S3_zero]
  omega

theorem wt_word (x : Nat) (h : x < 4294967296) : wt x = wt (x / 16777216) + wt (x / 65536 % 256) + wt (x / 256 % 256) + wt (x % 256) := by
  have e1 := wt_byte (x / 256) (x % 256) (by omega) (by omega)
  have e2 := wt_byte (x / 65536) (x / 256 % 256) (by omega) (by omega)
  have e3 := wt_byte (x / 16777216) (x / 65536 % 256) (by omega) (by omega)
  rw [show 256 * (x / 256) + x % 256 = x by omega] at e1
  rw [show 256 * (x / 65536) + x / 256 % 256 = x / 256 by omega] at e2
  rw [show 256 * (x / 16777216) + x / 65536 % 256 = x / 65536 by omega] at e3
  omega

theorem OnesCount_nat (x : Nat) (h : x < 4294967296) : bits_OnesCount.f (x : Int) = some (wt x : Int) := by
  unfold bits_OnesCount.f bits_OnesCount64.f
  simp only [Option.bind_some]
  have d2 : (x : Int) / 2 = ((x / 2 : Nat) : Int) := by omega
  rw [d2]
  have hand1 : x / 2 &&& 6148914691236517205 ≤ x / 2 := Nat.and_le_left
  have hand2 : x &&& 6148914691236517205 ≤ x := Nat.and_le_left
  have q1 : IntKind.u64.wrap (Go.bits .and .u64 ((x / 2 : Nat) : Int) 6148914691236517205 + Go.bits .and .u64 (x : Int) 6148914691236517205) = ((S1 6148914691236517205 x : Nat) : Int) := by
    have u1 : Go.bits .and .u64 ((x / 2 : Nat) : Int) 6148914691236517205 = ((x / 2 &&& 6148914691236517205 : Nat) : Int) := uand_nat (x / 2) 6148914691236517205 (by omega) (by decide)
    have u2 : Go.bits .and .u64 (x : Int) 6148914691236517205 = ((x &&& 6148914691236517205 : Nat) : Int) := uand_nat x 6148914691236517205 (by omega) (by decide)
    rw [u1, u2, wu (by omega) (by omega)]
    unfold S1
    omega
  rw [q1]
  have hS1 : S1 6148914691236517205 x < 8589934592 := by unfold S1; omega
  generalize hz1 : S1 6148914691236517205 x = z1 at hS1
  have d4 : (z1 : Int) / 4 = ((z1 / 4 : Nat) : Int) := by omega
  rw [d4]
  have hand3 : z1 / 4 &&& 3689348814741910323 ≤ z1 / 4 := Nat.and_le_left
  have hand4 : z1 &&& 3689348814741910323 ≤ z1 := Nat.and_le_left
  have q2 : IntKind.u64.wrap (Go.bits .and .u64 ((z1 / 4 : Nat) : Int) 3689348814741910323 + Go.bits .and .u64 (z1 : Int) 3689348814741910323) = ((S2 6148914691236517205 3689348814741910323 x : Nat) : Int) := by
    have u1 : Go.bits .and .u64 ((z1 / 4 : Nat) : Int) 3689348814741910323 = ((z1 / 4 &&& 3689348814741910323 : Nat) : Int) := uand_nat (z1 / 4) 3689348814741910323 (by omega) (by decide)
    have u2 : Go.bits .and .u64 (z1 : Int) 3689348814741910323 = ((z1 &&& 3689348814741910323 : Nat) : Int) := uand_nat z1 3689348814741910323 (by omega) (by decide)
    rw [u1, u2, wu (by omega) (by omega)]
    unfold S2
    rw [hz1]
    omega
  rw [q2]
  have hS2 : S2 6148914691236517205 3689348814741910323 x < 34359738368 := by unfold S2; rw [hz1]; omega
  generalize hz2 : S2 6148914691236517205 3689348814741910323 x = z2 at hS2
  have q3 : Go.bits .and .u64 (IntKind.u64.wrap ((z2 : Int) / 16 + (z2 : Int))) 1085102592571150095 = ((S3 6148914691236517205 3689348814741910323 1085102592571150095 x : Nat) : Int) := by
    have e : (z2 : Int) / 16 + (z2 : Int) = ((z2 / 16 + z2 : Nat) : Int) := by omega
    have u1 : Go.bits .and .u64 ((z2 / 16 + z2 : Nat) : Int) 1085102592571150095 = ((z2 / 16 + z2 &&& 1085102592571150095 : Nat) : Int) := uand_nat (z2 / 16 + z2) 1085102592571150095 (by omega) (by decide)
    rw [wu (by omega) (by omega), e, u1]
    unfold S3
    rw [hz2]
  rw [q3, S3_word x h]
  have w0 := wt8 ⟨x % 256, by omega⟩
  have w1 := wt8 ⟨x / 256 % 256, by omega⟩
  have w2 := wt8 ⟨x / 65536 % 256, by omega⟩
  have w3 := wt8 ⟨x / 16777216, by omega⟩
  simp only at w0 w1 w2 w3
  rw [wt_word x h]
  generalize wt (x % 256) = p0 at *
  generalize wt (x / 256 % 256) = p1 at *
  generalize wt (x / 65536 % 256) = p2 at *
  generalize wt (x / 16777216) = p3 at *
  have y1 : IntKind.u64.wrap (((256 * (256 * (256 * p3 + p2) + p1) + p0 : Nat) : Int) + ((256 * (256 * (256 * p3 + p2) + p1) + p0 : Nat) : Int) / 256) =
      ((16777216 * p3 + 65536 * (p3 + p2) + 256 * (p2 + p1) + (p1 + p0) : Nat) : Int) := by
    rw [wu (by omega) (by omega)]
    omega
  rw [y1]
  have y2 : IntKind.u64.wrap (((16777216 * p3 + 65536 * (p3 + p2) + 256 * (p2 + p1) + (p1 + p0) : Nat) : Int) + ((16777216 * p3 + 65536 * (p3 + p2) + 256 * (p2 + p1) + (p1 + p0) : Nat) : Int) / 65536) =
      ((16777216 * p3 + 65536 * (p3 + p2) + 256 * (p3 + p2 + p1) + (p3 + p2 + p1 + p0) : Nat) : Int) := by
    rw [wu (by omega) (by omega)]
    omega
  rw [y2]
  have y3 : IntKind.u64.wrap (((16777216 * p3 + 65536 * (p3 + p2) + 256 * (p3 + p2 + p1) + (p3 + p2 + p1 + p0) : Nat) : Int) + ((16777216 * p3 + 65536 * (p3 + p2) + 256 * (p3 + p2 + p1) + (p3 + p2 + p1 + p0) : Nat) : Int) / 4294967296) =
      ((16777216 * p3 + 65536 * (p3 + p2) + 256 * (p3 + p2 + p1) + (p3 + p2 + p1 + p0) : Nat) : Int) := by
    rw [wu (by omega) (by omega)]
    omega
  rw [y3, wrn _ (by omega)]
  have u : Go.bits .and .i64 ((16777216 * p3 + 65536 * (p3 + p2) + 256 * (p3 + p2 + p1) + (p3 + p2 + p1 + p0) : Nat) : Int) 127 = ((16777216 * p3 + 65536 * (p3 + p2) + 256 * (p3 + p2 + p1) + (p3 + p2 + p1 + p0) &&& 127 : Nat) : Int) := and_nat (16777216 * p3 + 65536 * (p3 + p2) + 256 * (p3 + p2 + p1) + (p3 + p2 + p1 + p0)) 127 (by omega) (by decide)
  rw [u, show (127 : Nat) = 2 ^ 7 - 1 from rfl, Nat.and_two_pow_sub_one_eq_mod]
  congr 2
  omega

theorem distance_nat (a b : Nat) (ha : a < 2 ^ 31) (hb : b < 2 ^ 31) : bch_distance.f (a : Int) (b : Int) = some (wt (a ^^^ b) : Int) := by
  have hx : a ^^^ b < 2 ^ 31 := Nat.xor_lt_two_pow ha hb
  unfold bch_distance.f
  rw [xor_nat a b (by omega) (by omega), wu (by omega) (by omega), OnesCount_nat _ (by omega)]
  simp

end Go.Proofs.Ytbbnagjfjgkgjaa.Ev

/- A part of the claim. -/
namespace Go.Proofs.Ytbbnagjfjgkgjaa.Ev
open Go.RowKit Go.Proofs.Ytbbnagjfjgkgjaa.L Go.Proofs.Ytbbnagjfjgkgjaa.Math Go.Proofs.YtbbnagjfjgkgjaaW.PrintWords Go.Proofs.YtbbnagjfjgkgjaaW.PrintLast Go.Proofs.YtbbnagjfjgkgjaaW.PrintMore

section
variable {kk g d : Nat}

theorem Code.pow (c : Code kk g d) : 2 ≤ 2 ^ kk ∧ 2 ^ kk ≤ 4096 := by
  have h1 := c.k1
  have h2 := c.k12
  exact ⟨by simpa using Nat.pow_le_pow_right (n := 2) (by decide) h1, by simpa using Nat.pow_le_pow_right (n := 2) (by decide) h2⟩

def cwt (g d v : Nat) : Nat := wt (cw g d v)
def dist (kk g d : Nat) : Nat := least (cwt g d) (2 ^ kk - 2) (cwt g d 1) 2

def near (g d word most v : Nat) : Bool := decide (wt (word ^^^ cw g d v) ≤ most)
def hit (kk g d word most : Nat) : Option Nat := first (near g d word most) (2 ^ kk) 0
def told (g d word : Nat) : Option Nat → Int × Int × Bool
  | none => (0, 0, false)
  | some v => ((v : Int), (wt (word ^^^ cw g d v) : Int), true)

theorem find_l0 (c : Code kk g d) (word most : Nat) (hw : word < 2 ^ 31) : ∀ (n v k : Nat), v + n = 2 ^ kk → n + 50 ≤ k →
    bch_find.l0 k (word : Int) (g : Int) (most : Int) ((2 ^ kk : Nat) : Int) (v : Int) = some (told g d word (first (near g d word most) n v)) := by
  intro n
  have hp := c.pow
  induction n with
  | zero =>
    intro v k hv hk
    obtain ⟨k, rfl⟩ : ∃ m, k = m + 1 := ⟨k - 1, by omega⟩
    simp only [bch_find.l0]
    rw [if_neg (by omega)]
    rfl
  | succ n ih =>
    intro v k hv hk
    obtain ⟨k, rfl⟩ : ∃ m, k = m + 1 := ⟨k - 1, by omega⟩
    have h31 := cw31 c v (by omega)
    simp only [bch_find.l0]
    rw [if_pos (by omega), codeword_nat c v k (by omega) (by omega)]
    rw [Option.bind_some]
    rw [distance_nat word (cw g d v) hw (by omega)]
    rw [Option.bind_some, first]
    by_cases hn : wt (word ^^^ cw g d v) ≤ most
    · rw [if_neg (by omega), if_pos (by unfold near; exact decide_eq_true hn)]
      rfl
    · rw [if_pos (by omega), if_neg (by unfold near; simp; omega)]
      rw [show wrap64 ((v : Int) + 1) = ((v + 1 : Nat) : Int) by rw [wr (by omega) (by omega)]; omega]
      exact ih (v + 1) k (by omega) (by omega)

theorem find_nat (c : Code kk g d) (word most k : Nat) (hw : word < 2 ^ 31) (hk : 5000 ≤ k) :
    bch_find.f k (word : Int) (kk : Int) (g : Int) (most : Int) = some (told g d word (hit kk g d word most)) := by
  have hp := c.pow
  have h12 := c.k12
  unfold bch_find.f
  rw [if_pos (by omega), one_shl kk (by omega)]
  have := find_l0 c word most hw (2 ^ kk) 0 k (by omega) (by omega)
  exact this

def cap (kk g d : Nat) : Nat := (dist kk g d - 1) / 2
end
end Go.Proofs.Ytbbnagjfjgkgjaa.Ev

/- A part of the claim. -/
namespace Go.Proofs.Ytbbnagjfjgkgjaa.Ev
open Go.RowKit Go.Proofs.Ytbbnagjfjgkgjaa.L Go.Proofs.Ytbbnagjfjgkgjaa.Math Go.Proofs.YtbbnagjfjgkgjaaW.PrintWords Go.Proofs.YtbbnagjfjgkgjaaW.PrintLast Go.Proofs.YtbbnagjfjgkgjaaW.PrintMore

section
variable {kk g d : Nat}
end
end Go.Proofs.Ytbbnagjfjgkgjaa.Ev
namespace Go.Proofs.Ytbbnagjfjgkgjaa.Ev
open Go.RowKit Go.Proofs.Ytbbnagjfjgkgjaa.L Go.Proofs.Ytbbnagjfjgkgjaa.Math Go.Proofs.YtbbnagjfjgkgjaaW.PrintWords Go.Proofs.YtbbnagjfjgkgjaaW.PrintLast Go.Proofs.YtbbnagjfjgkgjaaW.PrintMore
section
variable {kk g d : Nat}
theorem xor_back (a b : Nat) : (a ^^^ b) ^^^ a = b := by rw [Nat.xor_comm a b, Nat.xor_assoc, Nat.xor_self, Nat.xor_zero]

theorem hit_changed (x f most n : Nat) (hx : x < 2 ^ kk) (hn : ∀ u, u < 2 ^ kk → u ≠ 0 → n ≤ wt (cw g d u)) (hm : 2 * most < n) (hf : wt f ≤ most) :
    hit kk g d (cw g d x ^^^ f) most = some x := by
  unfold hit
  apply first_only
  · omega
  · omega
  · unfold near
    rw [xor_back]
    exact decide_eq_true hf
  · intro t _ ht hp
    have hp := of_decide_eq_true hp
    refine near_unique g d kk n t x (cw g d x ^^^ f) most (by omega) hx hn hm hp ?_
    rw [xor_back]
    exact hf
end
end Go.Proofs.Ytbbnagjfjgkgjaa.Ev

/- A part of the claim. -/
namespace Go.Proofs.Ytbbnagjfjgkgjaa.Ev
open Go.RowKit Go.Proofs.Ytbbnagjfjgkgjaa.L Go.Proofs.Ytbbnagjfjgkgjaa.Math Go.Proofs.YtbbnagjfjgkgjaaW.PrintWords Go.Proofs.YtbbnagjfjgkgjaaW.PrintLast Go.Proofs.YtbbnagjfjgkgjaaW.PrintMore

theorem codeF : Code 5 1335 10 := ⟨by decide, by decide, by decide, by decide, by decide, by decide, by decide, by decide, by decide⟩
theorem codeV : Code 6 7973 12 := ⟨by decide, by decide, by decide, by decide, by decide, by decide, by decide, by decide, by decide⟩

theorem minF : ∀ x : Fin 32, x.val ≠ 0 → 7 ≤ wt (cw 1335 10 x.val) := by decide +kernel
theorem minV : ∀ x : Fin 64, x.val ≠ 0 → 7 ≤ wt (cw 7973 12 x.val) := by decide +kernel
theorem minF' (u : Nat) (h : u < 2 ^ 5) (h0 : u ≠ 0) : 7 ≤ wt (cw 1335 10 u) := minF ⟨u, h⟩ h0
theorem minV' (u : Nat) (h : u < 2 ^ 6) (h0 : u ≠ 0) : 7 ≤ wt (cw 7973 12 u) := minV ⟨u, h⟩ h0

def lev (l : Int) : Nat := if l = 1 then 1 else if l = 2 then 0 else if l = 3 then 3 else 2
def fmt (l m : Int) : Int × Int :=
  if l < 1 ∨ 4 < l then (0, 15) else if m < 0 ∨ 7 < m then (0, 3) else (((cw 1335 10 (8 * lev l + m.toNat) ^^^ 21522 : Nat) : Int), 0)

theorem Format_nat (l m : Int) (k : Nat) (hk : 40 ≤ k) : bch_Format.f k l m = some (fmt l m) := by
  unfold bch_Format.f fmt
  by_cases h1 : l = 1
  · subst h1
    rw [if_pos rfl, if_neg (show ¬ ((1 : Int) < 1 ∨ 4 < (1 : Int)) by omega)]
    by_cases h2 : m < 0
    · rw [if_pos h2, if_pos (Or.inl h2)]
    · by_cases h3 : m > 7
      · rw [if_neg h2, if_pos h3, if_pos (Or.inr h3)]
      · have h31 := cw31 codeF (8 * 1 + m.toNat) (by omega)
        rw [if_neg h2, if_neg h3, if_neg (by omega), show wrap64 (8 * 1 + m) = ((8 * 1 + m.toNat : Nat) : Int) by rw [wr (by omega) (by omega)]; omega, show (1335 : Int) = ((1335 : Nat) : Int) from rfl, codeword_nat codeF _ k (by omega) hk, Option.bind_some]
        rw [show (21522 : Int) = ((21522 : Nat) : Int) from rfl, xor_nat _ _ (by omega) (by decide)]
        rfl
  · rw [if_neg h1]
    by_cases hl2 : l = 2
    · subst hl2
      rw [if_pos rfl, if_neg (show ¬ ((2 : Int) < 1 ∨ 4 < (2 : Int)) by omega)]
      by_cases h2 : m < 0
      · rw [if_pos h2, if_pos (Or.inl h2)]
      · by_cases h3 : m > 7
        · rw [if_neg h2, if_pos h3, if_pos (Or.inr h3)]
        · have h31 := cw31 codeF (8 * 0 + m.toNat) (by omega)
          rw [if_neg h2, if_neg h3, if_neg (by omega), show wrap64 (8 * 0 + m) = ((8 * 0 + m.toNat : Nat) : Int) by rw [wr (by omega) (by omega)]; omega, show (1335 : Int) = ((1335 : Nat) : Int) from rfl, codeword_nat codeF _ k (by omega) hk, Option.bind_some]
          rw [show (21522 : Int) = ((21522 : Nat) : Int) from rfl, xor_nat _ _ (by omega) (by decide)]
          rfl
    · rw [if_neg hl2]
      by_cases hl3 : l = 3
      · subst hl3
        rw [if_pos rfl, if_neg (show ¬ ((3 : Int) < 1 ∨ 4 < (3 : Int)) by omega)]
        by_cases h2 : m < 0
        · rw [if_pos h2, if_pos (Or.inl h2)]
        · by_cases h3 : m > 7
          · rw [if_neg h2, if_pos h3, if_pos (Or.inr h3)]
          · have h31 := cw31 codeF (8 * 3 + m.toNat) (by omega)
            rw [if_neg h2, if_neg h3, if_neg (by omega), show wrap64 (8 * 3 + m) = ((8 * 3 + m.toNat : Nat) : Int) by rw [wr (by omega) (by omega)]; omega, show (1335 : Int) = ((1335 : Nat) : Int) from rfl, codeword_nat codeF _ k (by omega) hk, Option.bind_some]
            rw [show (21522 : Int) = ((21522 : Nat) : Int) from rfl, xor_nat _ _ (by omega) (by decide)]
            rfl
      · rw [if_neg hl3]
        by_cases hl4 : l = 4
        · subst hl4
          rw [if_pos rfl, if_neg (show ¬ ((4 : Int) < 1 ∨ 4 < (4 : Int)) by omega)]
          by_cases h2 : m < 0
          · rw [if_pos h2, if_pos (Or.inl h2)]
          · by_cases h3 : m > 7
            · rw [if_neg h2, if_pos h3, if_pos (Or.inr h3)]
            · have h31 := cw31 codeF (8 * 2 + m.toNat) (by omega)
              rw [if_neg h2, if_neg h3, if_neg (by omega), show wrap64 (8 * 2 + m) = ((8 * 2 + m.toNat : Nat) : Int) by rw [wr (by omega) (by omega)]; omega, show (1335 : Int) = ((1335 : Nat) : Int) from rfl, codeword_nat codeF _ k (by omega) hk, Option.bind_some]
              rw [show (21522 : Int) = ((21522 : Nat) : Int) from rfl, xor_nat _ _ (by omega) (by decide)]
              rfl
        · rw [if_neg hl4, if_pos (by omega)]

def ver (n : Int) : Int × Int := if n < 7 ∨ 40 < n then (0, 14) else ((cw 7973 12 n.toNat : Int), 0)
theorem Version_nat (n : Int) (k : Nat) (hk : 40 ≤ k) : bch_Version.f k n = some (ver n) := by
  unfold bch_Version.f ver
  by_cases h1 : n < 7
  · rw [if_pos h1, if_pos (Or.inl h1)]
  · by_cases h2 : n > 40
    · rw [if_neg h1, if_pos h2, if_pos (Or.inr h2)]
    · obtain ⟨v, rfl⟩ : ∃ v : Nat, n = (v : Int) := ⟨n.toNat, by omega⟩
      rw [if_neg h1, if_neg h2, if_neg (by omega), show (7973 : Int) = ((7973 : Nat) : Int) from rfl, codeword_nat codeV v k (by omega) hk, Option.bind_some]
      rfl
def pver (word : Nat) : Option Nat → Int × Int × Int
  | none => (0, 0, 21)
  | some v => if v < 7 ∨ 40 < v then (0, 0, 14) else ((v : Int), (wt (word ^^^ cw 7973 12 v) : Int), 0)
theorem ParseVersion_nat (word k : Nat) (hw : word < 262144) (hk : 6000 ≤ k) : bch_ParseVersion.f k (word : Int) = some (pver word (hit 6 7973 12 word 3)) := by
  obtain ⟨m, rfl⟩ : ∃ m, k = m + 1 := ⟨k - 1, by omega⟩
  unfold bch_ParseVersion.f
  rw [if_neg (by omega), bch_ParseVersion.j0, if_neg (by rw [decide_eq_true_eq]; omega)]
  have hf := find_nat codeV word 3 m (by omega) (by omega)
  rw [show ((6 : Nat) : Int) = 6 from rfl, show ((7973 : Nat) : Int) = 7973 from rfl, show ((3 : Nat) : Int) = 3 from rfl] at hf
  rw [hf, Option.bind_some]
  cases hit 6 7973 12 word 3 with
  | none => rfl
  | some v =>
    show (if (true : Bool) = true then _ else _) = _
    rw [if_pos rfl]
    show (if (v : Int) < 7 then _ else _) = some (if v < 7 ∨ 40 < v then _ else _)
    by_cases h1 : v < 7
    · rw [if_pos (by omega), if_pos (Or.inl h1)]
    · rw [if_neg (by omega)]
      by_cases h2 : 40 < v
      · rw [if_pos (by show (v : Int) > 40; omega), if_pos (Or.inr h2)]
      · rw [if_neg (by show ¬ (v : Int) > 40; omega), if_neg (by omega)]
        rfl
end Go.Proofs.Ytbbnagjfjgkgjaa.Ev

/- A part of the claim. -/
namespace Go.Proofs.Ytbbnagjfjgkgjaa.Ev
open Go.RowKit Go.Proofs.Ytbbnagjfjgkgjaa.L Go.Proofs.Ytbbnagjfjgkgjaa.Math Go.Proofs.YtbbnagjfjgkgjaaW.PrintWords Go.Proofs.YtbbnagjfjgkgjaaW.PrintLast Go.Proofs.YtbbnagjfjgkgjaaW.PrintMore

def lvl (q : Nat) : Int := if q = 0 then 2 else if q = 1 then 1 else if q = 2 then 4 else 3
theorem lev_lvl (q : Nat) (h : q < 4) : lev (lvl q) = q := by
  have : q = 0 ∨ q = 1 ∨ q = 2 ∨ q = 3 := by omega
  rcases this with rfl | rfl | rfl | rfl <;> rfl
theorem lvl_lev (l : Int) (h0 : 1 ≤ l) (h : l ≤ 4) : lvl (lev l) = l := by
  have : l = 1 ∨ l = 2 ∨ l = 3 ∨ l = 4 := by omega
  rcases this with rfl | rfl | rfl | rfl <;> rfl
theorem lev_lt (l : Int) : lev l < 4 := by
  unfold lev
  split
  · omega
  · split
    · omega
    · split <;> omega
theorem bt0 : wrap64 (bt (⟨#[2, 1, 4, 3]⟩ : ByteArray) 0) = 2 := by kernel_rfl
theorem bt1 : wrap64 (bt (⟨#[2, 1, 4, 3]⟩ : ByteArray) 1) = 1 := by kernel_rfl
theorem bt2 : wrap64 (bt (⟨#[2, 1, 4, 3]⟩ : ByteArray) 2) = 4 := by kernel_rfl
theorem bt3 : wrap64 (bt (⟨#[2, 1, 4, 3]⟩ : ByteArray) 3) = 3 := by kernel_rfl
theorem lvl_bt (q : Nat) (h : q < 4) : wrap64 (bt (⟨#[2, 1, 4, 3]⟩ : ByteArray) (q : Int)) = lvl q := by
  have : q = 0 ∨ q = 1 ∨ q = 2 ∨ q = 3 := by omega
  rcases this with rfl | rfl | rfl | rfl
  · exact bt0
  · exact bt1
  · exact bt2
  · exact bt3

def pfmt (word : Nat) : Option Nat → Int × Int × Int × Int
  | none => (0, 0, 0, 21)
  | some v => (lvl (v / 8), ((v % 8 : Nat) : Int), (wt ((word ^^^ 21522) ^^^ cw 1335 10 v) : Int), 0)

theorem hit_lt {kk g d word most v : Nat} (h : hit kk g d word most = some v) : v < 2 ^ kk ∧ wt (word ^^^ cw g d v) ≤ most := by
  obtain ⟨_, h1, h2⟩ := first_some _ _ _ _ h
  exact ⟨by omega, of_decide_eq_true h2⟩

theorem ParseFormat_nat (word k : Nat) (hw : word < 32768) (hk : 6000 ≤ k) : bch_ParseFormat.f k (word : Int) = some (pfmt word (hit 5 1335 10 (word ^^^ 21522) 3)) := by
  obtain ⟨m, rfl⟩ : ∃ m, k = m + 1 := ⟨k - 1, by omega⟩
  have hx : word ^^^ 21522 < 2 ^ 15 := Nat.xor_lt_two_pow (by omega) (by decide)
  unfold bch_ParseFormat.f
  rw [if_neg (by omega), bch_ParseFormat.j0, if_neg (by rw [decide_eq_true_eq]; omega)]
  have hf := find_nat codeF (word ^^^ 21522) 3 m (by omega) (by omega)
  rw [show ((5 : Nat) : Int) = 5 from rfl, show ((1335 : Nat) : Int) = 1335 from rfl, show ((3 : Nat) : Int) = 3 from rfl] at hf
  rw [show (21522 : Int) = ((21522 : Nat) : Int) from rfl, xor_nat word 21522 (by omega) (by decide), hf, Option.bind_some]
  cases hh : hit 5 1335 10 (word ^^^ 21522) 3 with
  | none => rfl
  | some v =>
    have hv := (hit_lt hh).1
    show (if (true : Bool) = true then _ else _) = _
    rw [if_pos rfl]
    show (if 0 ≤ wrap64 (Int.tdiv (v : Int) 8) then (if wrap64 (Int.tdiv (v : Int) 8) < 4 then some (wrap64 (bt (⟨#[2, 1, 4, 3]⟩ : ByteArray) (wrap64 (Int.tdiv (v : Int) 8))), Int.tmod (v : Int) 8, (wt ((word ^^^ 21522) ^^^ cw 1335 10 v) : Int), 0) else none) else none) = _
    have e : wrap64 (Int.tdiv (v : Int) 8) = ((v / 8 : Nat) : Int) := by
      rw [Int.tdiv_eq_ediv_of_nonneg (by omega), wr (by omega) (by omega)]
      omega
    rw [e, if_pos (by omega), if_pos (by omega), lvl_bt (v / 8) (by omega), Int.tmod_eq_emod_of_nonneg (by omega)]
    rfl
def far (word u : Nat) : Nat := wt ((word ^^^ 21522) ^^^ cw 1335 10 u)

end Go.Proofs.Ytbbnagjfjgkgjaa.Ev
