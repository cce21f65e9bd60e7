/- A part of the claim. -/
import Derived.Test.YtbbnagjfjgkgjaaK8Evd
namespace Go.Proofs.Ytbbnagjfjgkgjaa.Ev
open Go.RowKit Go.Proofs.Ytbbnagjfjgkgjaa.L Go.Proofs.Ytbbnagjfjgkgjaa.Math Go.Proofs.YtbbnagjfjgkgjaaW.PrintWords Go.Proofs.YtbbnagjfjgkgjaaW.PrintLast Go.Proofs.YtbbnagjfjgkgjaaW.PrintMore

theorem codeF : Code 5 1335 10 := ⟨by decide, by decide, by decide, by decide, by decide, by decide, by decide, by decide, by decide⟩
theorem codeV : Code 6 7973 12 := ⟨by decide, by decide, by decide, by decide, by decide, by decide, by decide, by decide, by decide⟩

theorem minF : ∀ x : Fin 32, x.val ≠ 0 → 7 ≤ wt (cw 1335 10 x.val) := by decide +kernel
theorem minV : ∀ x : Fin 64, x.val ≠ 0 → 7 ≤ wt (cw 7973 12 x.val) := by decide +kernel
theorem minF' (u : Nat) (h : u < 2 ^ 5) (h0 : u ≠ 0) : 7 ≤ wt (cw 1335 10 u) := minF ⟨u, h⟩ h0
theorem minV' (u : Nat) (h : u < 2 ^ 6) (h0 : u ≠ 0) : 7 ≤ wt (cw 7973 12 u) := minV ⟨u, h⟩ h0

def lev (l : Int) : Nat := if l = 1 then 1 else if l = 2 then 0 else if l = 3 then 3 else 2
def fmt (l m : Int) : Int × Int :=
  if l < 1 ∨ 4 < l then (0, 15) else if m < 0 ∨ 7 < m then (0, 3) else (((cw 1335 10 (8 * lev l + m.toNat) ^^^ 21522 : Nat) : Int), 0)

theorem Format_nat (l m : Int) (k : Nat) (hk : 40 ≤ k) : bch_Format.f k l m = some (fmt l m) := by
  unfold bch_Format.f fmt
  by_cases h1 : l = 1
  · subst h1
    rw [if_pos rfl, if_neg (show ¬ ((1 : Int) < 1 ∨ 4 < (1 : Int)) by omega)]
    by_cases h2 : m < 0
    · rw [if_pos h2, if_pos (Or.inl h2)]
    · by_cases h3 : m > 7
      · rw [if_neg h2, if_pos h3, if_pos (Or.inr h3)]
      · have h31 := cw31 codeF (8 * 1 + m.toNat) (by omega)
        rw [if_neg h2, if_neg h3, if_neg (by omega), show wrap64 (8 * 1 + m) = ((8 * 1 + m.toNat : Nat) : Int) by rw [wr (by omega) (by omega)]; omega, show (1335 : Int) = ((1335 : Nat) : Int) from rfl, codeword_nat codeF _ k (by omega) hk, Option.bind_some]
        rw [show (21522 : Int) = ((21522 : Nat) : Int) from rfl, xor_nat _ _ (by omega) (by decide)]
        rfl
  · rw [if_neg h1]
    by_cases hl2 : l = 2
    · subst hl2
      rw [if_pos rfl, if_neg (show ¬ ((2 : Int) < 1 ∨ 4 < (2 : Int)) by omega)]
      by_cases h2 : m < 0
      · rw [if_pos h2, if_pos (Or.inl h2)]
      · by_cases h3 : m > 7
        · rw [if_neg h2, if_pos h3, if_pos (Or.inr h3)]
        · have h31 := cw31 codeF (8 * 0 + m.toNat) (by omega)
          rw [if_neg h2, if_neg h3, if_neg (by omega), show wrap64 (8 * 0 + m) = ((8 * 0 + m.toNat : Nat) : Int) by rw [wr (by omega) (by omega)]; omega, show (1335 : Int) = ((1335 : Nat) : Int) from rfl, codeword_nat codeF _ k (by omega) hk, Option.bind_some]
          rw [show (21522 : Int) = ((21522 : Nat) : Int) from rfl, xor_nat _ _ (by omega) (by decide)]
          rfl
    · rw [if_neg hl2]
      by_cases hl3 : l = 3
      · subst hl3
        rw [if_pos rfl, if_neg (show ¬ ((3 : Int) < 1 ∨ 4 < (3 : Int)) by omega)]
        by_cases h2 : m < 0
        · rw [if_pos h2, if_pos (Or.inl h2)]
        · by_cases h3 : m > 7
          · rw [if_neg h2, if_pos h3, if_pos (Or.inr h3)]
          · have h31 := cw31 codeF (8 * 3 + m.toNat) (by omega)
            rw [if_neg h2, if_neg h3, if_neg (by omega), show wrap64 (8 * 3 + m) = ((8 * 3 + m.toNat : Nat) : Int) by rw [wr (by omega) (by omega)]; omega, show (1335 : Int) = ((1335 : Nat) : Int) from rfl, codeword_nat codeF _ k (by omega) hk, Option.bind_some]
            rw [show (21522 : Int) = ((21522 : Nat) : Int) from rfl, xor_nat _ _ (by omega) (by decide)]
            rfl
      · rw [if_neg hl3]
        by_cases hl4 : l = 4
        · subst hl4
          rw [if_pos rfl, if_neg (show ¬ ((4 : Int) < 1 ∨ 4 < (4 : Int)) by omega)]
          by_cases h2 : m < 0
          · rw [if_pos h2, if_pos (Or.inl h2)]
          · by_cases h3 : m > 7
            · rw [if_neg h2, if_pos h3, if_pos (Or.inr h3)]
            · have h31 := cw31 codeF (8 * 2 + m.toNat) (by omega)
              rw [if_neg h2, if_neg h3, if_neg (by omega), show wrap64 (8 * 2 + m) = ((8 * 2 + m.toNat : Nat) : Int) by rw [wr (by omega) (by omega)]; omega, show (1335 : Int) = ((1335 : Nat) : Int) from rfl, codeword_nat codeF _ k (by omega) hk, Option.bind_some]
              rw [show (21522 : Int) = ((21522 : Nat) : Int) from rfl, xor_nat _ _ (by omega) (by decide)]
              rfl
        · rw [if_neg hl4, if_pos (by omega)]

def ver (n : Int) : Int × Int := if n < 7 ∨ 40 < n then (0, 14) else ((cw 7973 12 n.toNat : Int), 0)
theorem Version_nat (n : Int) (k : Nat) (hk : 40 ≤ k) : bch_Version.f k n = some (ver n) := by
  unfold bch_Version.f ver
  by_cases h1 : n < 7
  · rw [if_pos h1, if_pos (Or.inl h1)]
  · by_cases h2 : n > 40
    · rw [if_neg h1, if_pos h2, if_pos (Or.inr h2)]
    · obtain ⟨v, rfl⟩ : ∃ v : Nat, n = (v : Int) := ⟨n.toNat, by omega⟩
      rw [if_neg h1, if_neg h2, if_neg (by omega), show (7973 : Int) = ((7973 : Nat) : Int) from rfl, codeword_nat codeV v k (by omega) hk, Option.bind_some]
      rfl
def pver (word : Nat) : Option Nat → Int × Int × Int
  | none => (0, 0, 21)
  | some v => if v < 7 ∨ 40 < v then (0, 0, 14) else ((v : Int), (wt (word ^^^ cw 7973 12 v) : Int), 0)
theorem ParseVersion_nat (word k : Nat) (hw : word < 262144) (hk : 6000 ≤ k) : bch_ParseVersion.f k (word : Int) = some (pver word (hit 6 7973 12 word 3)) := by
  obtain ⟨m, rfl⟩ : ∃ m, k = m + 1 := ⟨k - 1, by omega⟩
  unfold bch_ParseVersion.f
  rw [if_neg (by omega), bch_ParseVersion.j0, if_neg (by rw [decide_eq_true_eq]; omega)]
  have hf := find_nat codeV word 3 m (by omega) (by omega)
  rw [show ((6 : Nat) : Int) = 6 from rfl, show ((7973 : Nat) : Int) = 7973 from rfl, show ((3 : Nat) : Int) = 3 from rfl] at hf
  rw [hf, Option.bind_some]
  cases hit 6 7973 12 word 3 with
  | none => rfl
  | some v =>
    show (if (true : Bool) = true then _ else _) = _
    rw [if_pos rfl]
    show (if (v : Int) < 7 then _ else _) = some (if v < 7 ∨ 40 < v then _ else _)
    by_cases h1 : v < 7
    · rw [if_pos (by omega), if_pos (Or.inl h1)]
    · rw [if_neg (by omega)]
      by_cases h2 : 40 < v
      · rw [if_pos (by show (v : Int) > 40; omega), if_pos (Or.inr h2)]
      · rw [if_neg (by show ¬ (v : Int) > 40; omega), if_neg (by omega)]
        rfl
end Go.Proofs.Ytbbnagjfjgkgjaa.Ev
