/- A part of the claim. -/
import Derived.Test.YtbbnagjfjgkgjaaK8Evb
namespace Go.Proofs.Ytbbnagjfjgkgjaa.Ev
open Go.RowKit Go.Proofs.Ytbbnagjfjgkgjaa.L Go.Proofs.Ytbbnagjfjgkgjaa.Math Go.Proofs.YtbbnagjfjgkgjaaW.PrintWords Go.Proofs.YtbbnagjfjgkgjaaW.PrintLast Go.Proofs.YtbbnagjfjgkgjaaW.PrintMore

section
variable {kk g d : Nat}

theorem Code.pow (c : Code kk g d) : 2 ≤ 2 ^ kk ∧ 2 ^ kk ≤ 4096 := by
  have h1 := c.k1
  have h2 := c.k12
  exact ⟨by simpa using Nat.pow_le_pow_right (n := 2) (by decide) h1, by simpa using Nat.pow_le_pow_right (n := 2) (by decide) h2⟩

def cwt (g d v : Nat) : Nat := wt (cw g d v)
def dist (kk g d : Nat) : Nat := least (cwt g d) (2 ^ kk - 2) (cwt g d 1) 2

def near (g d word most v : Nat) : Bool := decide (wt (word ^^^ cw g d v) ≤ most)
def hit (kk g d word most : Nat) : Option Nat := first (near g d word most) (2 ^ kk) 0
def told (g d word : Nat) : Option Nat → Int × Int × Bool
  | none => (0, 0, false)
  | some v => ((v : Int), (wt (word ^^^ cw g d v) : Int), true)

theorem find_l0 (c : Code kk g d) (word most : Nat) (hw : word < 2 ^ 31) : ∀ (n v k : Nat), v + n = 2 ^ kk → n + 50 ≤ k →
    bch_find.l0 k (word : Int) (g : Int) (most : Int) ((2 ^ kk : Nat) : Int) (v : Int) = some (told g d word (first (near g d word most) n v)) := by
  intro n
  have hp := c.pow
  induction n with
  | zero =>
    intro v k hv hk
    obtain ⟨k, rfl⟩ : ∃ m, k = m + 1 := ⟨k - 1, by omega⟩
    simp only [bch_find.l0]
    rw [if_neg (by omega)]
    rfl
  | succ n ih =>
    intro v k hv hk
    obtain ⟨k, rfl⟩ : ∃ m, k = m + 1 := ⟨k - 1, by omega⟩
    have h31 := cw31 c v (by omega)
    simp only [bch_find.l0]
    rw [if_pos (by omega), codeword_nat c v k (by omega) (by omega)]
    rw [Option.bind_some]
    rw [distance_nat word (cw g d v) hw (by omega)]
    rw [Option.bind_some, first]
    by_cases hn : wt (word ^^^ cw g d v) ≤ most
    · rw [if_neg (by omega), if_pos (by unfold near; exact decide_eq_true hn)]
      rfl
    · rw [if_pos (by omega), if_neg (by unfold near; simp; omega)]
      rw [show wrap64 ((v : Int) + 1) = ((v + 1 : Nat) : Int) by rw [wr (by omega) (by omega)]; omega]
      exact ih (v + 1) k (by omega) (by omega)

theorem find_nat (c : Code kk g d) (word most k : Nat) (hw : word < 2 ^ 31) (hk : 5000 ≤ k) :
    bch_find.f k (word : Int) (kk : Int) (g : Int) (most : Int) = some (told g d word (hit kk g d word most)) := by
  have hp := c.pow
  have h12 := c.k12
  unfold bch_find.f
  rw [if_pos (by omega), one_shl kk (by omega)]
  have := find_l0 c word most hw (2 ^ kk) 0 k (by omega) (by omega)
  exact this

def cap (kk g d : Nat) : Nat := (dist kk g d - 1) / 2
end
end Go.Proofs.Ytbbnagjfjgkgjaa.Ev
