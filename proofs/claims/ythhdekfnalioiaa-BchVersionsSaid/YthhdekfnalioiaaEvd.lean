import Derived.Test.YthhdekfnalioiaaBx4
import Derived.Test.YthhdekfnalioiaaEvc
/-! The statements' own helpers, in words of YthhdekfnalioiaaMath. -/
namespace Go.Proofs.Ythhdekfnalioiaa.Ev
open Go.RowKit Go.Proofs.Ythhdekfnalioiaa.B Go.Proofs.Ythhdekfnalioiaa.Math Go.Proofs.YthhdekfnalioiaaW.PrintWords Go.Proofs.YthhdekfnalioiaaW.PrintLast Go.Proofs.YthhdekfnalioiaaW.PrintMore

theorem u16_in {a : Int} (h : (Lit.int .u16 a).wf = true) : 0 ≤ a ∧ a ≤ 65535 := by
  simp only [Lit.wf, IntKind.min, IntKind.max, IntKind.signed, IntKind.bits, Bool.and_eq_true, decide_eq_true_eq, Bool.false_eq_true, if_false] at h
  omega
theorem u32_in {a : Int} (h : (Lit.int .u32 a).wf = true) : 0 ≤ a ∧ a ≤ 4294967295 := by
  simp only [Lit.wf, IntKind.min, IntKind.max, IntKind.signed, IntKind.bits, Bool.and_eq_true, decide_eq_true_eq, Bool.false_eq_true, if_false] at h
  omega

section
variable {kk g d : Nat}
theorem ldegree_nat (c : Code kk g d) (k : Nat) (hk : 40 ≤ k) : barscanlaw08_degree.f k (g : Int) = some (d : Int) := by
  have h18 := c.d18; have h19 := c.g19
  unfold barscanlaw08_degree.f
  have := halves_l0 barscanlaw08_degree.l0 (fun k x a => rfl) d g 0 k c.lo c.hi (by omega) (by omega) (by omega)
  simpa using this
theorem ones_nat (x k : Nat) (hx : x < 2 ^ 32) (hk : 100 ≤ k) : barscanlaw08_ones.f k (x : Int) = some (wt x : Int) := by
  unfold barscanlaw08_ones.f
  have := weight_l0 barscanlaw08_ones.l0 (fun k x a => rfl) 64 x 0 k (by omega) (by omega) (by omega) (by omega)
  simpa [wt] using this

/-- a modulo 2^n, as the code takes it. -/
theorem mod_pow (a : Int) (n : Nat) (h0 : 0 ≤ a) (h1 : a ≤ 4294967295) (hn : n ≤ 40) :
    Int.tmod (wrap64 a) (shl .i64 1 (IntKind.u64.wrap (n : Int))) = ((a.toNat % 2 ^ n : Nat) : Int) := by
  rw [wu (by omega) (by omega), one_shl n hn, wr (by omega) (by omega), Int.tmod_eq_emod_of_nonneg h0, Int.natCast_emod, Int.toNat_of_nonneg h0]
theorem shl_ne (n : Nat) (hn : n ≤ 40) : ¬ shl .i64 1 (IntKind.u64.wrap (n : Int)) = 0 := by
  rw [wu (by omega) (by omega), one_shl n hn]
  have := Nat.two_pow_pos n
  omega
end
end Go.Proofs.Ythhdekfnalioiaa.Ev
namespace Go.Proofs.Ythhdekfnalioiaa.Ev
open Go.RowKit Go.Proofs.Ythhdekfnalioiaa.B Go.Proofs.Ythhdekfnalioiaa.Math Go.Proofs.YthhdekfnalioiaaW.PrintWords Go.Proofs.YthhdekfnalioiaaW.PrintLast Go.Proofs.YthhdekfnalioiaaW.PrintMore
section
variable {kk g d : Nat}
theorem xor_back (a b : Nat) : (a ^^^ b) ^^^ a = b := by rw [Nat.xor_comm a b, Nat.xor_assoc, Nat.xor_self, Nat.xor_zero]

/-- A word with few changed bits leads back to the data, whatever bound below half the distance is taken. -/
theorem hit_changed (x f most n : Nat) (hx : x < 2 ^ kk) (hn : ∀ u, u < 2 ^ kk → u ≠ 0 → n ≤ wt (cw g d u)) (hm : 2 * most < n) (hf : wt f ≤ most) :
    hit kk g d (cw g d x ^^^ f) most = some x := by
  unfold hit
  apply first_only
  · omega
  · omega
  · unfold near
    rw [xor_back]
    exact decide_eq_true hf
  · intro t _ ht hp
    have hp := of_decide_eq_true hp
    refine near_unique g d kk n t x (cw g d x ^^^ f) most (by omega) hx hn hm hp ?_
    rw [xor_back]
    exact hf
end
end Go.Proofs.Ythhdekfnalioiaa.Ev
