/- For any data, change and numbers k, gen: Decode restores the data of a codeword of which fewer than half as many bits are changed as its distance says, and returns their number; and the examples hold. No condition. -/
import Derived.Test.YthhdekfnalioiaaBx5
import Derived.Test.YthhdekfnalioiaaEvd
namespace Go.Proofs.Ythhdekfnalioiaa.Pure
open Go.RowKit Go.Proofs.Ythhdekfnalioiaa.B Go.Proofs.Ythhdekfnalioiaa.Ev Go.Proofs.Ythhdekfnalioiaa.Math Go.Proofs.YthhdekfnalioiaaW.PrintWords Go.Proofs.YthhdekfnalioiaaW.PrintLast Go.Proofs.YthhdekfnalioiaaW.PrintMore

theorem corrects_in {kk g d : Nat} (c : Ev.Code kk g d) (h1 : bch_valid.f (kk : Int) (g : Int) = some true) (a0 a1 : Int) (u0 : 0 ≤ a0 ∧ a0 ≤ 65535) (u1 : 0 ≤ a1 ∧ a1 ≤ 4294967295) :
    barscanlaw08_BchCorrects.j0 6001 a0 a1 (kk : Int) (g : Int) (dist kk g d : Int) false = some true := by
  have hex := examples_any 6000 (by decide)
  have k12 := c.k12
  have hd := c.d18
  have hpos := dist_pos c
  have h30 := dist_30 c
  have hu : (0 : Int) ≤ IntKind.u64.wrap (kk : Int) := by rw [wu (by omega) (by omega)]; omega
  have e : wrap64 ((kk : Int) + (d : Int)) = ((kk + d : Nat) : Int) := by rw [wr (by omega) (by omega)]; omega
  have hu2 : (0 : Int) ≤ IntKind.u64.wrap ((kk + d : Nat) : Int) := by rw [wu (by omega) (by omega)]; omega
  rw [barscanlaw08_BchCorrects.j0, if_neg (by decide), if_pos hu, if_neg (shl_ne kk (by omega)), ldegree_nat c 6000 (by decide), Option.bind_some, e, if_pos hu2, if_neg (shl_ne (kk + d) (by omega)),
    mod_pow a0 kk (by omega) (by omega) (by omega), mod_pow a1 (kk + d) (by omega) (by omega) (by omega)]
  have hx : a0.toNat % 2 ^ kk < 2 ^ kk := Nat.mod_lt _ (Nat.two_pow_pos kk)
  have hf : a1.toNat % 2 ^ (kk + d) < 2 ^ (kk + d) := Nat.mod_lt _ (Nat.two_pow_pos (kk + d))
  have hp30 : 2 ^ (kk + d) ≤ 2 ^ 30 := Nat.pow_le_pow_right (by decide) (by omega)
  generalize a0.toNat % 2 ^ kk = x at hx
  generalize a1.toNat % 2 ^ (kk + d) = f at hf
  have hwf : wt f ≤ 30 := wt_le f 30 (by decide) (by omega)
  rw [ones_nat f 6000 (by omega) (by decide), Option.bind_some, wr (x := 2 * (wt f : Int)) (by omega) (by omega)]
  by_cases hc : 2 * (wt f : Int) ≥ (dist kk g d : Int)
  · rw [if_pos hc, hex]
    rfl
  · have hcap : wt f ≤ cap kk g d := by unfold cap; omega
    have hcap2 : 2 * cap kk g d < dist kk g d := by unfold cap; omega
    have c1 := cw31 c x hx
    have clt := cw_lt g d kk x c.lo c.hi c.kd hx
    have hw : cw g d x ^^^ f < 2 ^ (kk + d) := Nat.xor_lt_two_pow clt hf
    have hhit := hit_changed (kk := kk) (g := g) (d := d) x f (cap kk g d) (dist kk g d) hx (fun u hu h0 => dist_le u hu h0) hcap2 hcap
    rw [if_neg hc, Encode_nat c h1 x 6000 hx (by decide), Option.bind_some, xor_nat (cw g d x) f (by omega) (by omega), Decode_nat c h1 (cw g d x ^^^ f) 6000 hw (by decide), Option.bind_some, hhit]
    rw [show decoded g d (cw g d x ^^^ f) (some x) = ((x : Int), (wt ((cw g d x ^^^ f) ^^^ cw g d x) : Int), 0) from rfl, xor_back, if_pos rfl, if_pos rfl, if_pos rfl, if_pos rfl, hex]
    rfl

theorem BchCorrects : barscanlaw08_BchCorrects.Pure := by
  intro a0 a1 a2 a3 w0 w1 _ _
  have u0 := u16_in w0
  have u1 := u32_in w1
  have hex := examples_any 6001 (by decide)
  refine ⟨6001, ?_⟩
  unfold barscanlaw08_BchCorrects.f
  rcases valid_cases a2 a3 with ⟨h1, _⟩ | ⟨h1, _, kk, g, d, rfl, rfl, c⟩
  · rw [Distance_bad _ _ h1, Option.bind_some, if_neg (by decide), if_pos rfl, hex]
    rfl
  · have k1 := c.k1
    have k12 := c.k12
    have g3 := c.g3
    have g19 := c.g19
    rw [Distance_nat c h1 6001 (by decide), Option.bind_some, if_pos rfl, if_neg (by omega), if_neg (by omega), if_neg (by omega), decide_eq_false (by omega)]
    exact corrects_in c h1 a0 a1 u0 u1

end Go.Proofs.Ythhdekfnalioiaa.Pure
