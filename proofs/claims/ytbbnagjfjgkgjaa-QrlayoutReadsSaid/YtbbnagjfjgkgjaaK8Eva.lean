/- A part of the claim. -/
import Derived.Test.YtbbnagjfjgkgjaaK8Lx9
import Derived.Test.YtbbnagjfjgkgjaaK8Lx10
import Derived.Test.YtbbnagjfjgkgjaaK8Lx11
import Derived.Test.YtbbnagjfjgkgjaaK8Lx17
import Derived.Test.YtbbnagjfjgkgjaaK8Lx20
import Derived.Test.YtbbnagjfjgkgjaaK8Math
import Derived.Laws.BitsAllLaws
namespace Go.Proofs.Ytbbnagjfjgkgjaa.Ev
open Go.RowKit Go.Proofs.Ytbbnagjfjgkgjaa.L Go.Proofs.Ytbbnagjfjgkgjaa.Math Go.Proofs.YtbbnagjfjgkgjaaW.PrintWords Go.Proofs.YtbbnagjfjgkgjaaW.PrintLast Go.Proofs.YtbbnagjfjgkgjaaW.PrintMore

theorem wr {x : Int} (h0 : -9223372036854775808 ≤ x) (h1 : x < 9223372036854775808) : wrap64 x = x := by
  unfold wrap64
  omega
theorem wrn (n : Nat) (h1 : n < 9223372036854775808) : wrap64 (n : Int) = n := wr (by omega) (by omega)
theorem wu {x : Int} (h0 : 0 ≤ x) (h1 : x < 18446744073709551616) : IntKind.u64.wrap x = x := by
  rw [IntKind.wrap_u64]
  omega

theorem shl_nat (v d : Nat) (hd : d ≤ 64) (h : v * 2 ^ d < 9223372036854775808) : shl .i64 (v : Int) (d : Int) = ((v <<< d : Nat) : Int) := by
  unfold shl
  rw [i64_w, show min (d : Int).toNat IntKind.i64.bits = d by simp [IntKind.bits]; omega]
  have e : (v : Int) * 2 ^ d = ((v * 2 ^ d : Nat) : Int) := by simp
  rw [e, wrn _ h, Nat.shiftLeft_eq]

theorem one_shl (n : Nat) (h : n ≤ 40) : shl .i64 1 (n : Int) = ((2 ^ n : Nat) : Int) := by
  have hp : 2 ^ n ≤ 2 ^ 40 := Nat.pow_le_pow_right (by decide) h
  have := shl_nat 1 n (by omega) (by omega)
  rw [Nat.shiftLeft_eq, Nat.one_mul] at this
  exact this

theorem toNat_i64 (a : Nat) (ha : a < 9223372036854775808) : (BitVec.ofInt 64 (a : Int)).toNat = a := by
  rw [BitVec.ofInt_natCast, BitVec.toNat_ofNat]; exact Nat.mod_eq_of_lt (by omega)

theorem xor_nat (a b : Nat) (ha : a < 9223372036854775808) (hb : b < 9223372036854775808) : Go.bits .xor .i64 (a : Int) (b : Int) = ((a ^^^ b : Nat) : Int) := by
  have hx : a ^^^ b < 2 ^ 63 := Nat.xor_lt_two_pow (by omega) (by omega)
  show IntKind.i64.wrap ((BitVec.ofInt 64 (a : Int) ^^^ BitVec.ofInt 64 (b : Int)).toNat : Int) = _
  rw [BitVec.toNat_xor, toNat_i64 a ha, toNat_i64 b hb, i64_w, wrn _ (by omega)]
theorem or_nat (a b : Nat) (ha : a < 9223372036854775808) (hb : b < 9223372036854775808) : Go.bits .or .i64 (a : Int) (b : Int) = ((a ||| b : Nat) : Int) := by
  have hx : a ||| b < 2 ^ 63 := Nat.or_lt_two_pow (by omega) (by omega)
  show IntKind.i64.wrap ((BitVec.ofInt 64 (a : Int) ||| BitVec.ofInt 64 (b : Int)).toNat : Int) = _
  rw [BitVec.toNat_or, toNat_i64 a ha, toNat_i64 b hb, i64_w, wrn _ (by omega)]
theorem and_nat (a b : Nat) (ha : a < 9223372036854775808) (hb : b < 9223372036854775808) : Go.bits .and .i64 (a : Int) (b : Int) = ((a &&& b : Nat) : Int) := by
  have hx : a &&& b < 2 ^ 63 := Nat.and_lt_two_pow a (by omega)
  show IntKind.i64.wrap ((BitVec.ofInt 64 (a : Int) &&& BitVec.ofInt 64 (b : Int)).toNat : Int) = _
  rw [BitVec.toNat_and, toNat_i64 a ha, toNat_i64 b hb, i64_w, wrn _ (by omega)]
theorem uand_nat (a b : Nat) (ha : a < 18446744073709551616) (hb : b < 18446744073709551616) : Go.bits .and .u64 (a : Int) (b : Int) = ((a &&& b : Nat) : Int) := by
  have hx : a &&& b < 2 ^ 64 := Nat.and_lt_two_pow a (by omega)
  have t : ∀ n : Nat, n < 18446744073709551616 → (BitVec.ofInt 64 (n : Int)).toNat = n := fun n hn => by
    rw [BitVec.ofInt_natCast, BitVec.toNat_ofNat]; exact Nat.mod_eq_of_lt (by omega)
  show IntKind.u64.wrap ((BitVec.ofInt 64 (a : Int) &&& BitVec.ofInt 64 (b : Int)).toNat : Int) = _
  rw [BitVec.toNat_and, t a ha, t b hb, wu (by omega) (by omega)]

theorem bitLenAux_up : ∀ (f x : Nat), x < 2 ^ f → x < 2 ^ Lib.bitLenAux f x ∧ (x ≠ 0 → 2 ^ Lib.bitLenAux f x ≤ 2 * x)
  | 0, x, h => by simp at h; subst h; simp [Lib.bitLenAux]
  | f + 1, x, h => by
    simp only [Lib.bitLenAux]
    by_cases h0 : x = 0
    · subst h0; simp
    · rw [if_neg h0]
      have ih := bitLenAux_up f (x / 2) (by rw [Nat.pow_succ] at h; omega)
      rw [Nat.add_comm 1, Nat.pow_succ]
      refine ⟨by omega, fun _ => ?_⟩
      by_cases h2 : x / 2 = 0
      · rw [h2] at ih ⊢
        have e : Lib.bitLenAux f 0 = 0 := by cases f <;> simp [Lib.bitLenAux]
        rw [e]
        simp
        omega
      · have := ih.2 h2
        omega
theorem bitLen_bounds (x : Nat) (h : x < 2 ^ 64) : x < 2 ^ Lib.bitLen x ∧ (x ≠ 0 → 2 ^ Lib.bitLen x ≤ 2 * x) := bitLenAux_up 64 x h
theorem bitLen_of (x n : Nat) (h0 : 2 ^ n ≤ x) (h1 : x < 2 ^ (n + 1)) (hn : n < 64) : Lib.bitLen x = n + 1 := by
  have hx : x < 2 ^ 64 := Nat.lt_of_lt_of_le h1 (Nat.pow_le_pow_right (by decide) (by omega))
  have hp := Nat.two_pow_pos n
  obtain ⟨a, b⟩ := bitLen_bounds x hx
  have b := b (by omega)
  have h1' : Lib.bitLen x ≤ n + 1 := Lib.bitLen_le x (n + 1) (by omega) h1
  have h2 : ¬ Lib.bitLen x ≤ n := fun h => by
    have := Nat.pow_le_pow_right (n := 2) (by decide) h
    omega
  omega

theorem Len_nat (x : Nat) (h : x < 9223372036854775808) : bits_Len.f (IntKind.u64.wrap (x : Int)) = some (Lib.bitLen x : Int) := by
  rw [wu (by omega) (by omega)]
  unfold bits_Len.f bits_Len64.f
  rw [if_pos (by omega), if_pos (by omega)]
  simp

structure Code (k g d : Nat) : Prop where
  k1 : 1 ≤ k
  k12 : k ≤ 12
  g3 : 3 ≤ g
  g19 : g < 524288
  odd : g % 2 = 1
  lo : 2 ^ d ≤ g
  hi : g < 2 ^ (d + 1)
  d1 : 1 ≤ d
  d18 : d ≤ 18
theorem Code.len {k g d : Nat} (c : Code k g d) : Lib.bitLen g = d + 1 := bitLen_of g d c.lo c.hi (by have := c.d18; omega)
theorem Code.kd {k g d : Nat} (c : Code k g d) : k + d ≤ 31 := by have := c.k12; have := c.d18; omega
theorem degree_nat {k g d : Nat} (c : Code k g d) : bch_degree.f (g : Int) = some (d : Int) := by
  have := c.g19; have := c.d18
  unfold bch_degree.f
  rw [Len_nat g (by omega), c.len]
  simp only [Option.bind_some]
  rw [wr (by omega) (by omega)]
  congr 1
  omega

theorem codeword_l0 {kk g d : Nat} (c : Code kk g d) (word : Nat) (hw : word < 2147483648) : ∀ (j r k : Nat), d + j ≤ 31 → r < 2 ^ (d + j) → j < k →
    bch_codeword.l0 k (g : Int) (d : Int) (word : Int) (r : Int) = some ((word ||| remN g d j r : Nat) : Int) := by
  have hd := c.d18
  intro j
  induction j with
  | zero =>
    intro r k _ hr hk
    obtain ⟨k, rfl⟩ : ∃ m, k = m + 1 := ⟨k - 1, by omega⟩
    have hr31 : r < 2 ^ 31 := Nat.lt_of_lt_of_le hr (Nat.pow_le_pow_right (by decide) (by omega))
    have hl : Lib.bitLen r ≤ d := Lib.bitLen_le r d (by omega) hr
    simp only [bch_codeword.l0]
    rw [Len_nat r (by omega)]
    simp only [Option.bind_some]
    have e1 : wrap64 ((Lib.bitLen r : Int) - 1) = (Lib.bitLen r : Int) - 1 := wr (by omega) (by omega)
    have e2 : wrap64 ((Lib.bitLen r : Int) - 1 - d) = (Lib.bitLen r : Int) - 1 - d := wr (by omega) (by omega)
    rw [e1, e2, if_pos (by omega), or_nat word r (by omega) (by omega)]
    rfl
  | succ j ih =>
    intro r k hj hr hk
    by_cases hb : r.testBit (d + j) = true
    · have hs := step_lt g d j r c.lo c.hi hr hb
      have hlow : 2 ^ (d + j) ≤ r := Nat.ge_two_pow_of_testBit hb
      have hlen : Lib.bitLen r = d + j + 1 := bitLen_of r (d + j) hlow hr (by omega)
      have hr31 : r < 2 ^ 31 := Nat.lt_of_lt_of_le hr (Nat.pow_le_pow_right (by decide) (by omega))
      have hg31 : g * 2 ^ j < 2 ^ 32 := by
        have h1 : g * 2 ^ j < 2 ^ (d + 1) * 2 ^ j := Nat.mul_lt_mul_of_pos_right c.hi (Nat.two_pow_pos j)
        rw [← Nat.pow_add] at h1
        exact Nat.lt_of_lt_of_le h1 (Nat.pow_le_pow_right (by decide) (by omega))
      obtain ⟨k, rfl⟩ : ∃ m, k = m + 1 := ⟨k - 1, by omega⟩
      simp only [bch_codeword.l0]
      rw [Len_nat r (by omega), hlen]
      simp only [Option.bind_some]
      have e1 : wrap64 (((d + j + 1 : Nat) : Int) - 1) = ((d + j : Nat) : Int) := by rw [wr (by omega) (by omega)]; omega
      have e2 : wrap64 (((d + j : Nat) : Int) - d) = (j : Int) := by rw [wr (by omega) (by omega)]; omega
      rw [e1, e2, if_neg (by omega), if_pos (by omega), shl_nat g j (by omega) (by omega), xor_nat r (g <<< j) (by omega) (by rw [Nat.shiftLeft_eq]; omega)]
      rw [ih _ k (by omega) hs (by omega)]
      simp only [remN]
      rw [hb]
      simp
    · have hb' : r.testBit (d + j) = false := by simpa using hb
      rw [ih r k (by omega) (low_lt r (d + j) hr hb') (by omega)]
      simp only [remN]
      rw [hb']
      simp

theorem codeword_nat {kk g d : Nat} (c : Code kk g d) (v k : Nat) (hv : v < 2 ^ kk) (hk : 40 ≤ k) : bch_codeword.f k (v : Int) (g : Int) = some ((cw g d v : Nat) : Int) := by
  have hd := c.d18; have h12 := c.k12
  have hs := shl_lt v kk d hv
  have hs31 : v <<< d < 2 ^ 30 := Nat.lt_of_lt_of_le hs (Nat.pow_le_pow_right (by decide) (by omega))
  unfold bch_codeword.f
  rw [degree_nat c]
  simp only [Option.bind_some]
  rw [if_pos (by omega), shl_nat v d (by omega) (by rw [← Nat.shiftLeft_eq]; omega)]
  rw [codeword_l0 c (v <<< d) (by omega) (31 - d) (v <<< d) k (by omega) (Nat.lt_of_lt_of_le hs31 (Nat.pow_le_pow_right (by decide) (by omega))) (by omega)]
  rw [cw_or g d kk v c.lo c.hi c.kd hv]

theorem cw31 {kk g d : Nat} (c : Code kk g d) (v : Nat) (hv : v < 2 ^ kk) : cw g d v < 2 ^ 30 := by
  have := cw_lt g d kk v c.lo c.hi c.kd hv
  exact Nat.lt_of_lt_of_le this (Nat.pow_le_pow_right (by decide) (by have := c.k12; have := c.d18; omega))

end Go.Proofs.Ytbbnagjfjgkgjaa.Ev
