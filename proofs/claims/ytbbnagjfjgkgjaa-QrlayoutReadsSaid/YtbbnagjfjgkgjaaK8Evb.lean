/- A part of the claim. -/
import Derived.Test.YtbbnagjfjgkgjaaK8Eva
namespace Go.Proofs.Ytbbnagjfjgkgjaa.Ev
open Go.RowKit Go.Proofs.Ytbbnagjfjgkgjaa.L Go.Proofs.Ytbbnagjfjgkgjaa.Math Go.Proofs.YtbbnagjfjgkgjaaW.PrintWords Go.Proofs.YtbbnagjfjgkgjaaW.PrintLast Go.Proofs.YtbbnagjfjgkgjaaW.PrintMore

theorem and_byte (A B M m : Nat) (hB : B < 256) (hm : m < 256) : (256 * A + B) &&& (256 * M + m) = 256 * (A &&& M) + (B &&& m) := by
  have h8 : (256 : Nat) = 2 ^ 8 := rfl
  have hBm : B &&& m < 2 ^ 8 := Nat.and_lt_two_pow B hm
  apply Nat.eq_of_testBit_eq
  intro i
  rw [Nat.testBit_and, h8, Nat.testBit_two_pow_mul_add A hB, Nat.testBit_two_pow_mul_add M hm, Nat.testBit_two_pow_mul_add _ hBm]
  split
  · rw [Nat.testBit_and]
  · rw [Nat.testBit_and]

def S1 (A x : Nat) : Nat := (x / 2 &&& A) + (x &&& A)
def S2 (A B x : Nat) : Nat := (S1 A x / 4 &&& B) + (S1 A x &&& B)
def S3 (A B C x : Nat) : Nat := (S2 A B x / 16 + S2 A B x) &&& C

theorem byte1 : ∀ e : Fin 2, ∀ b : Fin 256, ((128 * e.val + b.val / 2) &&& 85) = (b.val / 2 &&& 85) := by decide +kernel
theorem byte1_le : ∀ b : Fin 256, (b.val / 2 &&& 85) + (b.val &&& 85) < 256 := by decide +kernel
theorem byte2 : ∀ e : Fin 4, ∀ b : Fin 256, ((64 * e.val + b.val / 4) &&& 51) = (b.val / 4 &&& 51) := by decide +kernel
def s1 (b : Nat) : Nat := (b / 2 &&& 85) + (b &&& 85)
def s2 (b : Nat) : Nat := (s1 b / 4 &&& 51) + (s1 b &&& 51)
theorem byte3 : ∀ b : Fin 256, ((s2 b.val / 16 + s2 b.val) &&& 15) = wt b.val := by decide +kernel
theorem byte3_le : ∀ b : Fin 256, s2 b.val ≤ 68 := by decide +kernel
theorem wt8 : ∀ b : Fin 256, wt b.val ≤ 8 := by decide +kernel
theorem byte4 : ∀ e : Fin 7, ∀ t : Fin 73, ((16 * e.val + t.val) &&& 15) = (t.val &&& 15) := by decide +kernel

theorem S1_byte (A y b : Nat) (hb : b < 256) : S1 (256 * A + 85) (256 * y + b) = 256 * S1 A y + s1 b := by
  unfold S1 s1
  have e1 : (256 * y + b) / 2 = 256 * (y / 2) + (128 * (y % 2) + b / 2) := by omega
  rw [e1, and_byte _ _ _ _ (by omega) (by decide), and_byte _ _ _ _ hb (by decide)]
  have := byte1 ⟨y % 2, by omega⟩ ⟨b, hb⟩
  simp only at this
  rw [this]
  omega
theorem s1_lt (b : Nat) (hb : b < 256) : s1 b < 256 := byte1_le ⟨b, hb⟩
theorem S2_byte (A B y b : Nat) (hb : b < 256) : S2 (256 * A + 85) (256 * B + 51) (256 * y + b) = 256 * S2 A B y + s2 b := by
  unfold S2 s2
  rw [S1_byte A y b hb]
  have hs := s1_lt b hb
  have e1 : (256 * S1 A y + s1 b) / 4 = 256 * (S1 A y / 4) + (64 * (S1 A y % 4) + s1 b / 4) := by omega
  rw [e1, and_byte _ _ _ _ (by omega) (by decide), and_byte _ _ _ _ hs (by decide)]
  have := byte2 ⟨S1 A y % 4, by omega⟩ ⟨s1 b, hs⟩
  simp only at this
  rw [this]
  omega
theorem and_mod16 (a B : Nat) (hB : B % 16 ≤ 3) : (a &&& B) % 16 ≤ 3 := by
  have h := @Nat.and_mod_two_pow a B 4
  simp only [Nat.reducePow] at h
  rw [h]
  exact Nat.le_trans Nat.and_le_right hB
theorem S2_mod (A B y : Nat) (hB : B % 16 ≤ 3) : S2 A B y % 16 ≤ 6 := by
  unfold S2
  have h1 := and_mod16 (S1 A y / 4) B hB
  have h2 := and_mod16 (S1 A y) B hB
  omega
theorem S3_byte (A B C y b : Nat) (hb : b < 256) (hB : B % 16 ≤ 3) : S3 (256 * A + 85) (256 * B + 51) (256 * C + 15) (256 * y + b) = 256 * S3 A B C y + wt b := by
  unfold S3
  rw [S2_byte A B y b hb]
  have h6 := S2_mod A B y hB
  have h68 := byte3_le ⟨b, hb⟩
  have h3 := byte3 ⟨b, hb⟩
  simp only at h68 h3
  have e1 : (256 * S2 A B y + s2 b) / 16 + (256 * S2 A B y + s2 b) = 256 * (S2 A B y / 16 + S2 A B y) + (16 * (S2 A B y % 16) + (s2 b / 16 + s2 b)) := by omega
  rw [e1, and_byte _ _ _ _ (by omega) (by decide)]
  have h4 := byte4 ⟨S2 A B y % 16, by omega⟩ ⟨s2 b / 16 + s2 b, by omega⟩
  simp only at h4
  rw [h4, h3]
theorem S3_zero (A B C : Nat) : S3 A B C 0 = 0 := by simp [S3, S2, S1]

theorem S3_word (x : Nat) (h : x < 4294967296) : S3 6148914691236517205 3689348814741910323 1085102592571150095 x =
    256 * (256 * (256 * wt (x / 16777216) + wt (x / 65536 % 256)) + wt (x / 256 % 256)) + wt (x % 256) := by
  have e : x = 256 * (256 * (256 * (256 * 0 + x / 16777216) + x / 65536 % 256) + x / 256 % 256) + x % 256 := by omega
  conv => lhs; rw [e]
  have a1 : 6148914691236517205 = 256 * 24019198012642645 + 85 := by decide
  have a2 : 24019198012642645 = 256 * 93824992236885 + 85 := by decide
  have a3 : 93824992236885 = 256 * 366503875925 + 85 := by decide
  have a4 : 366503875925 = 256 * 1431655765 + 85 := by decide
  have b1 : 3689348814741910323 = 256 * 14411518807585587 + 51 := by decide
  have b2 : 14411518807585587 = 256 * 56294995342131 + 51 := by decide
  have b3 : 56294995342131 = 256 * 219902325555 + 51 := by decide
  have b4 : 219902325555 = 256 * 858993459 + 51 := by decide
  have c1 : 1085102592571150095 = 256 * 4238682002231055 + 15 := by decide
  have c2 : 4238682002231055 = 256 * 16557351571215 + 15 := by decide
  have c3 : 16557351571215 = 256 * 64677154575 + 15 := by decide
  have c4 : 64677154575 = 256 * 252645135 + 15 := by decide
  rw [a1, b1, c1, S3_byte _ _ _ _ _ (by omega) (by decide), a2, b2, c2, S3_byte _ _ _ _ _ (by omega) (by decide), a3, b3, c3, S3_byte _ _ _ _ _ (by omega) (by decide), a4, b4, c4, S3_byte _ _ _ _ _ (by omega) (by decide), S3_zero]
  omega

theorem wt_word (x : Nat) (h : x < 4294967296) : wt x = wt (x / 16777216) + wt (x / 65536 % 256) + wt (x / 256 % 256) + wt (x % 256) := by
  have e1 := wt_byte (x / 256) (x % 256) (by omega) (by omega)
  have e2 := wt_byte (x / 65536) (x / 256 % 256) (by omega) (by omega)
  have e3 := wt_byte (x / 16777216) (x / 65536 % 256) (by omega) (by omega)
  rw [show 256 * (x / 256) + x % 256 = x by omega] at e1
  rw [show 256 * (x / 65536) + x / 256 % 256 = x / 256 by omega] at e2
  rw [show 256 * (x / 16777216) + x / 65536 % 256 = x / 65536 by omega] at e3
  omega

theorem OnesCount_nat (x : Nat) (h : x < 4294967296) : bits_OnesCount.f (x : Int) = some (wt x : Int) := by
  unfold bits_OnesCount.f bits_OnesCount64.f
  simp only [Option.bind_some]
  have d2 : (x : Int) / 2 = ((x / 2 : Nat) : Int) := by omega
  rw [d2]
  have hand1 : x / 2 &&& 6148914691236517205 ≤ x / 2 := Nat.and_le_left
  have hand2 : x &&& 6148914691236517205 ≤ x := Nat.and_le_left
  have q1 : IntKind.u64.wrap (Go.bits .and .u64 ((x / 2 : Nat) : Int) 6148914691236517205 + Go.bits .and .u64 (x : Int) 6148914691236517205) = ((S1 6148914691236517205 x : Nat) : Int) := by
    have u1 : Go.bits .and .u64 ((x / 2 : Nat) : Int) 6148914691236517205 = ((x / 2 &&& 6148914691236517205 : Nat) : Int) := uand_nat (x / 2) 6148914691236517205 (by omega) (by decide)
    have u2 : Go.bits .and .u64 (x : Int) 6148914691236517205 = ((x &&& 6148914691236517205 : Nat) : Int) := uand_nat x 6148914691236517205 (by omega) (by decide)
    rw [u1, u2, wu (by omega) (by omega)]
    unfold S1
    omega
  rw [q1]
  have hS1 : S1 6148914691236517205 x < 8589934592 := by unfold S1; omega
  generalize hz1 : S1 6148914691236517205 x = z1 at hS1
  have d4 : (z1 : Int) / 4 = ((z1 / 4 : Nat) : Int) := by omega
  rw [d4]
  have hand3 : z1 / 4 &&& 3689348814741910323 ≤ z1 / 4 := Nat.and_le_left
  have hand4 : z1 &&& 3689348814741910323 ≤ z1 := Nat.and_le_left
  have q2 : IntKind.u64.wrap (Go.bits .and .u64 ((z1 / 4 : Nat) : Int) 3689348814741910323 + Go.bits .and .u64 (z1 : Int) 3689348814741910323) = ((S2 6148914691236517205 3689348814741910323 x : Nat) : Int) := by
    have u1 : Go.bits .and .u64 ((z1 / 4 : Nat) : Int) 3689348814741910323 = ((z1 / 4 &&& 3689348814741910323 : Nat) : Int) := uand_nat (z1 / 4) 3689348814741910323 (by omega) (by decide)
    have u2 : Go.bits .and .u64 (z1 : Int) 3689348814741910323 = ((z1 &&& 3689348814741910323 : Nat) : Int) := uand_nat z1 3689348814741910323 (by omega) (by decide)
    rw [u1, u2, wu (by omega) (by omega)]
    unfold S2
    rw [hz1]
    omega
  rw [q2]
  have hS2 : S2 6148914691236517205 3689348814741910323 x < 34359738368 := by unfold S2; rw [hz1]; omega
  generalize hz2 : S2 6148914691236517205 3689348814741910323 x = z2 at hS2
  have q3 : Go.bits .and .u64 (IntKind.u64.wrap ((z2 : Int) / 16 + (z2 : Int))) 1085102592571150095 = ((S3 6148914691236517205 3689348814741910323 1085102592571150095 x : Nat) : Int) := by
    have e : (z2 : Int) / 16 + (z2 : Int) = ((z2 / 16 + z2 : Nat) : Int) := by omega
    have u1 : Go.bits .and .u64 ((z2 / 16 + z2 : Nat) : Int) 1085102592571150095 = ((z2 / 16 + z2 &&& 1085102592571150095 : Nat) : Int) := uand_nat (z2 / 16 + z2) 1085102592571150095 (by omega) (by decide)
    rw [wu (by omega) (by omega), e, u1]
    unfold S3
    rw [hz2]
  rw [q3, S3_word x h]
  have w0 := wt8 ⟨x % 256, by omega⟩
  have w1 := wt8 ⟨x / 256 % 256, by omega⟩
  have w2 := wt8 ⟨x / 65536 % 256, by omega⟩
  have w3 := wt8 ⟨x / 16777216, by omega⟩
  simp only at w0 w1 w2 w3
  rw [wt_word x h]
  generalize wt (x % 256) = p0 at *
  generalize wt (x / 256 % 256) = p1 at *
  generalize wt (x / 65536 % 256) = p2 at *
  generalize wt (x / 16777216) = p3 at *
  have y1 : IntKind.u64.wrap (((256 * (256 * (256 * p3 + p2) + p1) + p0 : Nat) : Int) + ((256 * (256 * (256 * p3 + p2) + p1) + p0 : Nat) : Int) / 256) =
      ((16777216 * p3 + 65536 * (p3 + p2) + 256 * (p2 + p1) + (p1 + p0) : Nat) : Int) := by
    rw [wu (by omega) (by omega)]
    omega
  rw [y1]
  have y2 : IntKind.u64.wrap (((16777216 * p3 + 65536 * (p3 + p2) + 256 * (p2 + p1) + (p1 + p0) : Nat) : Int) + ((16777216 * p3 + 65536 * (p3 + p2) + 256 * (p2 + p1) + (p1 + p0) : Nat) : Int) / 65536) =
      ((16777216 * p3 + 65536 * (p3 + p2) + 256 * (p3 + p2 + p1) + (p3 + p2 + p1 + p0) : Nat) : Int) := by
    rw [wu (by omega) (by omega)]
    omega
  rw [y2]
  have y3 : IntKind.u64.wrap (((16777216 * p3 + 65536 * (p3 + p2) + 256 * (p3 + p2 + p1) + (p3 + p2 + p1 + p0) : Nat) : Int) + ((16777216 * p3 + 65536 * (p3 + p2) + 256 * (p3 + p2 + p1) + (p3 + p2 + p1 + p0) : Nat) : Int) / 4294967296) =
      ((16777216 * p3 + 65536 * (p3 + p2) + 256 * (p3 + p2 + p1) + (p3 + p2 + p1 + p0) : Nat) : Int) := by
    rw [wu (by omega) (by omega)]
    omega
  rw [y3, wrn _ (by omega)]
  have u : Go.bits .and .i64 ((16777216 * p3 + 65536 * (p3 + p2) + 256 * (p3 + p2 + p1) + (p3 + p2 + p1 + p0) : Nat) : Int) 127 = ((16777216 * p3 + 65536 * (p3 + p2) + 256 * (p3 + p2 + p1) + (p3 + p2 + p1 + p0) &&& 127 : Nat) : Int) := and_nat (16777216 * p3 + 65536 * (p3 + p2) + 256 * (p3 + p2 + p1) + (p3 + p2 + p1 + p0)) 127 (by omega) (by decide)
  rw [u, show (127 : Nat) = 2 ^ 7 - 1 from rfl, Nat.and_two_pow_sub_one_eq_mod]
  congr 2
  omega

theorem distance_nat (a b : Nat) (ha : a < 2 ^ 31) (hb : b < 2 ^ 31) : bch_distance.f (a : Int) (b : Int) = some (wt (a ^^^ b) : Int) := by
  have hx : a ^^^ b < 2 ^ 31 := Nat.xor_lt_two_pow ha hb
  unfold bch_distance.f
  rw [xor_nat a b (by omega) (by omega), wu (by omega) (by omega), OnesCount_nat _ (by omega)]
  simp

end Go.Proofs.Ytbbnagjfjgkgjaa.Ev
