/- A part of the claim. -/
import Derived.Test.YtbbnagjfjgkgjaaK8Evc
namespace Go.Proofs.Ytbbnagjfjgkgjaa.Ev
open Go.RowKit Go.Proofs.Ytbbnagjfjgkgjaa.L Go.Proofs.Ytbbnagjfjgkgjaa.Math Go.Proofs.YtbbnagjfjgkgjaaW.PrintWords Go.Proofs.YtbbnagjfjgkgjaaW.PrintLast Go.Proofs.YtbbnagjfjgkgjaaW.PrintMore

section
variable {kk g d : Nat}
end
end Go.Proofs.Ytbbnagjfjgkgjaa.Ev
namespace Go.Proofs.Ytbbnagjfjgkgjaa.Ev
open Go.RowKit Go.Proofs.Ytbbnagjfjgkgjaa.L Go.Proofs.Ytbbnagjfjgkgjaa.Math Go.Proofs.YtbbnagjfjgkgjaaW.PrintWords Go.Proofs.YtbbnagjfjgkgjaaW.PrintLast Go.Proofs.YtbbnagjfjgkgjaaW.PrintMore
section
variable {kk g d : Nat}
theorem xor_back (a b : Nat) : (a ^^^ b) ^^^ a = b := by rw [Nat.xor_comm a b, Nat.xor_assoc, Nat.xor_self, Nat.xor_zero]

theorem hit_changed (x f most n : Nat) (hx : x < 2 ^ kk) (hn : ∀ u, u < 2 ^ kk → u ≠ 0 → n ≤ wt (cw g d u)) (hm : 2 * most < n) (hf : wt f ≤ most) :
    hit kk g d (cw g d x ^^^ f) most = some x := by
  unfold hit
  apply first_only
  · omega
  · omega
  · unfold near
    rw [xor_back]
    exact decide_eq_true hf
  · intro t _ ht hp
    have hp := of_decide_eq_true hp
    refine near_unique g d kk n t x (cw g d x ^^^ f) most (by omega) hx hn hm hp ?_
    rw [xor_back]
    exact hf
end
end Go.Proofs.Ytbbnagjfjgkgjaa.Ev
