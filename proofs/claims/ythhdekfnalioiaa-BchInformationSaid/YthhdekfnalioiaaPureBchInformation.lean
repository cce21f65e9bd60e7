/- For any level, mask, version and change: format and version information of which at most three bits are changed are restored, with the number of the changed bits; and the examples hold. No condition. -/
import Derived.Test.YthhdekfnalioiaaBx8
import Derived.Test.YthhdekfnalioiaaEvf
namespace Go.Proofs.Ythhdekfnalioiaa.Pure
open Go.RowKit Go.Proofs.Ythhdekfnalioiaa.B Go.Proofs.Ythhdekfnalioiaa.Ev Go.Proofs.Ythhdekfnalioiaa.Math Go.Proofs.YthhdekfnalioiaaW.PrintWords Go.Proofs.YthhdekfnalioiaaW.PrintLast Go.Proofs.YthhdekfnalioiaaW.PrintMore

theorem mod_lit (a : Int) (h0 : 0 ≤ a) (h1 : a ≤ 4294967295) (n : Nat) : Int.tmod (wrap64 a) (n : Int) = ((a.toNat % n : Nat) : Int) := by
  rw [wr (by omega) (by omega), Int.tmod_eq_emod_of_nonneg h0, Int.natCast_emod, Int.toNat_of_nonneg h0]

theorem info_j2 (a2 vw x : Int) : barscanlaw08_BchInformation.j2 6001 a2 vw x false = some true := by
  rw [barscanlaw08_BchInformation.j2, if_neg (by decide), examples_any 6000 (by decide)]
  rfl
theorem info_j2_true (n f : Nat) (hn : 7 ≤ n ∧ n ≤ 40) (hf : f < 262144) (hw : wt f ≤ 3) : barscanlaw08_BchInformation.j2 6001 (n : Int) ((cw 7973 12 n : Nat) : Int) (f : Int) true = some true := by
  have c1 := cw31 codeV n (by omega)
  have clt := cw_lt 7973 12 6 n codeV.lo codeV.hi codeV.kd (by omega)
  have hx : cw 7973 12 n ^^^ f < 2 ^ 18 := Nat.xor_lt_two_pow clt (by omega)
  have hh := hit_changed (kk := 6) (g := 7973) (d := 12) n f 3 7 (by omega) minV' (by decide) hw
  rw [barscanlaw08_BchInformation.j2, if_pos rfl, xor_nat (cw 7973 12 n) f (by omega) (by omega), ParseVersion_nat _ 6000 (by omega) (by decide), Option.bind_some, hh]
  have e : pver (cw 7973 12 n ^^^ f) (some n) = ((n : Int), (wt f : Int), 0) := by
    show (if n < 7 ∨ 40 < n then _ else _) = _
    rw [if_neg (by omega), xor_back]
  rw [e, if_pos rfl, if_pos rfl, ones_nat f 6000 (by omega) (by decide), Option.bind_some, if_pos rfl, examples_any 6000 (by decide)]
  rfl

theorem info_j1 (a2 a3 : Int) (u : 0 ≤ a3 ∧ a3 ≤ 4294967295) : barscanlaw08_BchInformation.j1 6002 a2 a3 = some true := by
  rw [barscanlaw08_BchInformation.j1, Version_nat a2 6001 (by decide), Option.bind_some]
  have hm := mod_lit a3 u.1 u.2 262144
  rw [show ((262144 : Nat) : Int) = 262144 from rfl] at hm
  rw [hm]
  have hf : a3.toNat % 262144 < 262144 := Nat.mod_lt _ (by decide)
  generalize a3.toNat % 262144 = f at hf
  by_cases h : a2 < 7 ∨ 40 < a2
  · have e : ver a2 = (0, 14) := by unfold ver; rw [if_pos h]
    rw [e, if_neg (by decide)]
    exact info_j2 _ _ _
  · obtain ⟨n, rfl⟩ : ∃ n : Nat, a2 = (n : Int) := ⟨a2.toNat, by omega⟩
    have e : ver (n : Int) = (((cw 7973 12 n : Nat) : Int), 0) := by unfold ver; rw [if_neg h]; rfl
    rw [e, if_pos rfl, ones_nat f 6001 (by omega) (by decide), Option.bind_some]
    by_cases hw : wt f ≤ 3
    · rw [decide_eq_true (by omega)]
      exact info_j2_true n f (by omega) hf hw
    · rw [decide_eq_false (by omega)]
      exact info_j2 _ _ _

theorem info_j0 (a0 a1 a2 a3 w x : Int) (u : 0 ≤ a3 ∧ a3 ≤ 4294967295) : barscanlaw08_BchInformation.j0 6003 a0 a1 a2 a3 w x false = some true := by
  rw [barscanlaw08_BchInformation.j0, if_neg (by decide)]
  exact info_j1 a2 a3 u
theorem info_j0_true (a0 a1 a2 a3 : Int) (u : 0 ≤ a3 ∧ a3 ≤ 4294967295) (hl : 1 ≤ a0 ∧ a0 ≤ 4) (hm : 0 ≤ a1 ∧ a1 ≤ 7) (f : Nat) (hf : f < 32768) (hw : wt f ≤ 3) :
    barscanlaw08_BchInformation.j0 6003 a0 a1 a2 a3 ((cw 1335 10 (8 * lev a0 + a1.toNat) ^^^ 21522 : Nat) : Int) (f : Int) true = some true := by
  have hlev := lev_lt a0
  have hu : 8 * lev a0 + a1.toNat < 2 ^ 5 := by omega
  have c1 := cw_lt 1335 10 5 (8 * lev a0 + a1.toNat) codeF.lo codeF.hi codeF.kd hu
  have hx : cw 1335 10 (8 * lev a0 + a1.toNat) ^^^ 21522 < 2 ^ 15 := Nat.xor_lt_two_pow c1 (by decide)
  have hx2 : (cw 1335 10 (8 * lev a0 + a1.toNat) ^^^ 21522) ^^^ f < 2 ^ 15 := Nat.xor_lt_two_pow hx (by omega)
  have hh := hit_changed (kk := 5) (g := 1335) (d := 10) (8 * lev a0 + a1.toNat) f 3 7 hu minF' (by decide) hw
  have ex : ((cw 1335 10 (8 * lev a0 + a1.toNat) ^^^ 21522) ^^^ f) ^^^ 21522 = cw 1335 10 (8 * lev a0 + a1.toNat) ^^^ f := by
    rw [Nat.xor_assoc, Nat.xor_comm f 21522, Nat.xor_assoc, ← Nat.xor_assoc 21522 21522, Nat.xor_self, Nat.zero_xor]
  rw [barscanlaw08_BchInformation.j0, if_pos rfl, xor_nat _ f (by omega) (by omega), ParseFormat_nat _ 6002 (by omega) (by decide), Option.bind_some, ex, hh]
  have e : pfmt ((cw 1335 10 (8 * lev a0 + a1.toNat) ^^^ 21522) ^^^ f) (some (8 * lev a0 + a1.toNat)) = (a0, a1, (wt f : Int), 0) := by
    show (lvl ((8 * lev a0 + a1.toNat) / 8), (((8 * lev a0 + a1.toNat) % 8 : Nat) : Int), _, _) = _
    rw [show (8 * lev a0 + a1.toNat) / 8 = lev a0 by omega, lvl_lev a0 hl.1 hl.2, show (((8 * lev a0 + a1.toNat) % 8 : Nat) : Int) = a1 by omega, ex, xor_back]
  rw [e, if_pos rfl, if_pos rfl, if_pos rfl, ones_nat f 6002 (by omega) (by decide), Option.bind_some, if_pos rfl]
  exact info_j1 a2 a3 u

theorem BchInformation : barscanlaw08_BchInformation.Pure := by
  intro a0 a1 a2 a3 _ _ _ w3
  have u := u32_in w3
  refine ⟨6003, ?_⟩
  unfold barscanlaw08_BchInformation.f
  rw [Format_nat a0 a1 6003 (by decide), Option.bind_some]
  have hm := mod_lit a3 u.1 u.2 32768
  rw [show ((32768 : Nat) : Int) = 32768 from rfl] at hm
  rw [hm]
  have hf : a3.toNat % 32768 < 32768 := Nat.mod_lt _ (by decide)
  generalize a3.toNat % 32768 = f at hf
  by_cases h1 : a0 < 1 ∨ 4 < a0
  · have e : fmt a0 a1 = (0, 15) := by unfold fmt; rw [if_pos h1]
    rw [e, if_neg (by decide)]
    exact info_j0 _ _ _ _ _ _ u
  · by_cases h2 : a1 < 0 ∨ 7 < a1
    · have e : fmt a0 a1 = (0, 3) := by unfold fmt; rw [if_neg h1, if_pos h2]
      rw [e, if_neg (by decide)]
      exact info_j0 _ _ _ _ _ _ u
    · have e : fmt a0 a1 = (((cw 1335 10 (8 * lev a0 + a1.toNat) ^^^ 21522 : Nat) : Int), 0) := by unfold fmt; rw [if_neg h1, if_neg h2]
      rw [e, if_pos rfl, ones_nat f 6003 (by omega) (by decide), Option.bind_some]
      by_cases hw : wt f ≤ 3
      · rw [decide_eq_true (by omega)]
        exact info_j0_true a0 a1 a2 a3 u (by omega) (by omega) f hf hw
      · rw [decide_eq_false (by omega)]
        exact info_j0 _ _ _ _ _ _ u

end Go.Proofs.Ythhdekfnalioiaa.Pure
