/- For any numbers word, k, gen: if Decode succeeds, the codeword of its result has the returned distance from the word, which is below half the least distance; and the examples hold. No condition. -/
import Derived.Test.YthhdekfnalioiaaBx5
import Derived.Test.YthhdekfnalioiaaEvd
namespace Go.Proofs.Ythhdekfnalioiaa.Pure
open Go.RowKit Go.Proofs.Ythhdekfnalioiaa.B Go.Proofs.Ythhdekfnalioiaa.Ev Go.Proofs.Ythhdekfnalioiaa.Math Go.Proofs.YthhdekfnalioiaaW.PrintWords Go.Proofs.YthhdekfnalioiaaW.PrintLast Go.Proofs.YthhdekfnalioiaaW.PrintMore

theorem BchDetects : barscanlaw08_BchDetects.Pure := by
  intro a0 a1 a2 _ _ _
  have hex := examples_any 6001 (by decide)
  refine ⟨6001, ?_⟩
  unfold barscanlaw08_BchDetects.f
  rcases valid_cases a1 a2 with ⟨h1, _⟩ | ⟨h1, _, kk, g, d, rfl, rfl, c⟩
  · rw [Decode_bad a0 a1 a2 h1, Option.bind_some, if_neg (by decide), if_pos rfl, if_pos rfl, if_pos rfl, hex]
    rfl
  · have k12 := c.k12
    have hd := c.d18
    have hpos := dist_pos c
    have h30 := dist_30 c
    by_cases hin : 0 ≤ a0 ∧ a0 < ((2 ^ (kk + d) : Nat) : Int)
    · obtain ⟨w, rfl⟩ : ∃ v : Nat, a0 = (v : Int) := ⟨a0.toNat, by omega⟩
      have hw : w < 2 ^ (kk + d) := by omega
      have hp30 : 2 ^ (kk + d) ≤ 2 ^ 30 := Nat.pow_le_pow_right (by decide) (by omega)
      rw [Decode_nat c h1 w 6001 hw (by decide), Option.bind_some]
      cases hh : hit kk g d w (cap kk g d) with
      | none =>
        rw [show decoded g d w none = (0, 0, 17) from rfl, if_neg (by decide), if_pos rfl, if_pos rfl, if_neg (by decide), if_neg (by decide), if_pos rfl, hex]
        rfl
      | some v =>
        obtain ⟨_, hv, hnear⟩ := first_some _ _ _ _ hh
        have hv : v < 2 ^ kk := by omega
        have hnear := of_decide_eq_true hnear
        have c1 := cw31 c v hv
        have hwt : wt (w ^^^ cw g d v) ≤ cap kk g d := hnear
        have hx : cw g d v ^^^ w < 2 ^ 30 := Nat.xor_lt_two_pow c1 (by omega)
        rw [show decoded g d w (some v) = ((v : Int), (wt (w ^^^ cw g d v) : Int), 0) from rfl, if_pos rfl, Distance_nat c h1 6001 (by decide), Option.bind_some, Encode_nat c h1 v 6001 hv (by decide), Option.bind_some, if_pos rfl, if_pos rfl, xor_nat (cw g d v) w (by omega) (by omega),
          ones_nat _ 6001 (by omega) (by decide), Option.bind_some, if_pos (by rw [Nat.xor_comm])]
        have hcap2 : 2 * cap kk g d < dist kk g d := by unfold cap; omega
        rw [show (((v : Int), (wt (w ^^^ cw g d v) : Int), (0 : Int)).snd.fst) = (wt (w ^^^ cw g d v) : Int) from rfl, wr (by omega) (by omega), if_pos (by omega), hex]
        rfl
    · rw [Decode_out c h1 a0 6001 (by omega), Option.bind_some, if_neg (by decide), if_pos rfl, if_pos rfl, if_neg (by decide), if_pos rfl, hex]
      rfl

end Go.Proofs.Ythhdekfnalioiaa.Pure
