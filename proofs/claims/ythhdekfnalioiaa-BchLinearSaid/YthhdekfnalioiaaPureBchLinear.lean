/- For any data a, b and numbers k, gen: the codeword of an exclusive or is the exclusive or of the codewords, the upper bits of a codeword are its data, and the examples hold. No condition. -/
import Derived.Test.YthhdekfnalioiaaEvd
namespace Go.Proofs.Ythhdekfnalioiaa.Pure
open Go.RowKit Go.Proofs.Ythhdekfnalioiaa.B Go.Proofs.Ythhdekfnalioiaa.Ev Go.Proofs.Ythhdekfnalioiaa.Math Go.Proofs.YthhdekfnalioiaaW.PrintWords Go.Proofs.YthhdekfnalioiaaW.PrintLast Go.Proofs.YthhdekfnalioiaaW.PrintMore

theorem linear_out (a0 a1 a2 a3 : Int) (h : a2 < 1 ∨ 12 < a2) : barscanlaw08_BchLinear.j0 6001 a0 a1 a2 a3 true = some true := by
  have hex := examples_any 6000 (by decide)
  have hv : bch_valid.f a2 a3 = some false := by
    unfold bch_valid.f
    by_cases h1 : a2 ≥ 1
    · rw [if_pos h1, if_neg (by omega)]
    · rw [if_neg h1]
  rw [barscanlaw08_BchLinear.j0, if_pos rfl, Encode_bad 0 a2 a3 hv, Option.bind_some, if_pos rfl, hex]
  rfl

theorem linear_in (a0 a1 a2 a3 : Int) (u0 : 0 ≤ a0 ∧ a0 ≤ 65535) (u1 : 0 ≤ a1 ∧ a1 ≤ 65535) (h : 1 ≤ a2 ∧ a2 ≤ 12) : barscanlaw08_BchLinear.j0 6001 a0 a1 a2 a3 false = some true := by
  have hex := examples_any 6000 (by decide)
  obtain ⟨n, rfl⟩ : ∃ n : Nat, a2 = (n : Int) := ⟨a2.toNat, by omega⟩
  have hu : (0 : Int) ≤ IntKind.u64.wrap (n : Int) := by rw [wu (by omega) (by omega)]; omega
  rw [barscanlaw08_BchLinear.j0, if_neg (by decide), if_pos hu, if_neg (shl_ne n (by omega)), mod_pow a0 n (by omega) (by omega) (by omega), mod_pow a1 n (by omega) (by omega) (by omega)]
  have hp := Nat.two_pow_pos n
  have hx : a0.toNat % 2 ^ n < 2 ^ n := Nat.mod_lt _ hp
  have hy : a1.toNat % 2 ^ n < 2 ^ n := Nat.mod_lt _ hp
  have hp12 : 2 ^ n ≤ 2 ^ 12 := Nat.pow_le_pow_right (by decide) (by omega)
  generalize a0.toNat % 2 ^ n = x at hx
  generalize a1.toNat % 2 ^ n = y at hy
  have hxy : x ^^^ y < 2 ^ n := Nat.xor_lt_two_pow hx hy
  rw [xor_nat x y (by omega) (by omega)]
  rcases valid_cases (n : Int) a3 with ⟨h1, _⟩ | ⟨h1, _, kk, g, d, e, rfl, c⟩
  · rw [Encode_bad _ _ _ h1, Encode_bad _ _ _ h1, Encode_bad _ _ _ h1, Option.bind_some, Option.bind_some, Option.bind_some, if_neg (by decide), if_pos rfl, if_pos rfl, if_pos rfl, hex]
    rfl
  · obtain rfl : n = kk := by omega
    have hd := c.d18
    have c1 := cw31 c x hx
    have c2 := cw31 c y hy
    rw [Encode_nat c h1 x 6000 hx (by decide), Encode_nat c h1 y 6000 hy (by decide), Encode_nat c h1 (x ^^^ y) 6000 hxy (by decide), Option.bind_some, Option.bind_some, Option.bind_some, if_pos rfl,
      ldegree_nat c 6000 (by decide), Option.bind_some, if_pos rfl, if_pos rfl, xor_nat (cw g d x) (cw g d y) (by omega) (by omega), if_pos (by rw [cw_xor]), wu (by omega) (by omega), if_pos (by omega)]
    have hs : shr .i64 ((cw g d x : Nat) : Int) (d : Int) = (x : Int) := by
      unfold shr
      rw [show min (d : Int).toNat IntKind.i64.bits = d by simp [IntKind.bits]; omega]
      have := cw_shift g d n x c.lo c.hi c.kd hx
      have e2 : ((cw g d x : Nat) : Int) / 2 ^ d = ((cw g d x / 2 ^ d : Nat) : Int) := by simp
      rw [e2, this]
    rw [if_pos hs, if_pos (by omega), hex]
    rfl

theorem BchLinear : barscanlaw08_BchLinear.Pure := by
  intro a0 a1 a2 a3 w0 w1 _ _
  have u0 := u16_in w0
  have u1 := u16_in w1
  refine ⟨6001, ?_⟩
  unfold barscanlaw08_BchLinear.f
  by_cases h : a2 < 1
  · rw [if_pos h]
    exact linear_out a0 a1 a2 a3 (Or.inl h)
  · rw [if_neg h]
    by_cases h2 : a2 > 12
    · rw [decide_eq_true h2]
      exact linear_out a0 a1 a2 a3 (Or.inr h2)
    · rw [decide_eq_false h2]
      exact linear_in a0 a1 a2 a3 u0 u1 (by omega)

end Go.Proofs.Ythhdekfnalioiaa.Pure
