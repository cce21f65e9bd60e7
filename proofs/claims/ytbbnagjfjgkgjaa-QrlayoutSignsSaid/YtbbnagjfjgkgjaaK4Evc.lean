/- A part of the claim. -/
import Derived.Test.YtbbnagjfjgkgjaaK4Evb
namespace Go.Proofs.Ytbbnagjfjgkgjaa.Ev
open Go.RowKit Go.Proofs.Ytbbnagjfjgkgjaa.L Go.Proofs.Ytbbnagjfjgkgjaa.Math Go.Proofs.YtbbnagjfjgkgjaaW.PrintWords Go.Proofs.YtbbnagjfjgkgjaaW.PrintLast Go.Proofs.YtbbnagjfjgkgjaaW.PrintMore

section
variable {kk g d : Nat}

theorem Code.pow (c : Code kk g d) : 2 ≤ 2 ^ kk ∧ 2 ^ kk ≤ 4096 := by
  have h1 := c.k1
  have h2 := c.k12
  exact ⟨by simpa using Nat.pow_le_pow_right (n := 2) (by decide) h1, by simpa using Nat.pow_le_pow_right (n := 2) (by decide) h2⟩

def cwt (g d v : Nat) : Nat := wt (cw g d v)
def dist (kk g d : Nat) : Nat := least (cwt g d) (2 ^ kk - 2) (cwt g d 1) 2

def near (g d word most v : Nat) : Bool := decide (wt (word ^^^ cw g d v) ≤ most)
def hit (kk g d word most : Nat) : Option Nat := first (near g d word most) (2 ^ kk) 0
def told (g d word : Nat) : Option Nat → Int × Int × Bool
  | none => (0, 0, false)
  | some v => ((v : Int), (wt (word ^^^ cw g d v) : Int), true)

theorem find_l0 (c : Code kk g d) (word most : Nat) (hw : word < 2 ^ 31) : ∀ (n v k : Nat), v + n = 2 ^ kk → n + 50 ≤ k →
    bch_find.l0 k (word : Int) (g : Int) (most : Int) ((2 ^ kk : Nat) : Int) (v : Int) = some (told g d word (first (near g d word most) n v)) := by
  intro n
  have hp := c.pow
  induction n with
  | zero =>
    intro v k hv hk
    obtain ⟨k, rfl⟩ : ∃ m, k = m + 1 := ⟨k - 1, by omega⟩
    simp only [bch_find.l0]
    rw [if_neg (by omega)]
    rfl
  | succ n ih =>
    intro v k hv hk
    obtain ⟨k, rfl⟩ : ∃ m, k = m + 1 := ⟨k - 1, by omega⟩
    have h31 := cw31 c v (by omega)
    simp only [bch_find.l0]
    rw [if_pos (by omega), codeword_nat c v k (by omega) (by omega)]
    rw [Option.bind_some]
    rw [distance_nat word (cw g d v) hw (by omega)]
    rw [Option.bind_some, first]
    by_cases hn : wt (word ^^^ cw g d v) ≤ most
    · rw [if_neg (by omega), if_pos (by unfold near; exact decide_eq_true hn)]
      rfl
    · rw [if_pos (by omega), if_neg (by unfold near; simp; omega)]
      rw [show wrap64 ((v : Int) + 1) = ((v + 1 : Nat) : Int) by rw [wr (by omega) (by omega)]; omega]
      exact ih (v + 1) k (by omega) (by omega)

theorem find_nat (c : Code kk g d) (word most k : Nat) (hw : word < 2 ^ 31) (hk : 5000 ≤ k) :
    bch_find.f k (word : Int) (kk : Int) (g : Int) (most : Int) = some (told g d word (hit kk g d word most)) := by
  have hp := c.pow
  have h12 := c.k12
  unfold bch_find.f
  rw [if_pos (by omega), one_shl kk (by omega)]
  have := find_l0 c word most hw (2 ^ kk) 0 k (by omega) (by omega)
  exact this

def cap (kk g d : Nat) : Nat := (dist kk g d - 1) / 2
theorem power_l0 : ∀ (n i N p k : Nat), i + n = N → N ≤ 40 → p * 2 ^ n < 4611686018427387904 → n < k → barscanref08_power.l0 k (N : Int) (p : Int) (i : Int) = some ((p * 2 ^ n : Nat) : Int) := by
  intro n
  induction n with
  | zero =>
    intro i N p k hi hN hp hk
    obtain ⟨k, rfl⟩ : ∃ m, k = m + 1 := ⟨k - 1, by omega⟩
    simp only [barscanref08_power.l0]
    rw [if_neg (by omega)]
    simp
  | succ n ih =>
    intro i N p k hi hN hp hk
    obtain ⟨k, rfl⟩ : ∃ m, k = m + 1 := ⟨k - 1, by omega⟩
    have hpp : 2 * p * 2 ^ n = p * 2 ^ (n + 1) := by rw [Nat.pow_succ, Nat.mul_comm 2 p, Nat.mul_assoc, Nat.mul_comm 2]
    have h2 : 2 * p ≤ 2 * p * 2 ^ n := Nat.le_mul_of_pos_right _ (Nat.two_pow_pos n)
    simp only [barscanref08_power.l0]
    rw [if_pos (by omega), show wrap64 (2 * (p : Int)) = ((2 * p : Nat) : Int) by rw [wr (by omega) (by omega)]; omega,
      show wrap64 ((i : Int) + 1) = ((i + 1 : Nat) : Int) by rw [wr (by omega) (by omega)]; omega, ih (i + 1) N (2 * p) k (by omega) hN (by omega) (by omega), hpp]
theorem power_nat (n k : Nat) (hn : n ≤ 40) (hk : 41 ≤ k) : barscanref08_power.f k (n : Int) = some ((2 ^ n : Nat) : Int) := by
  have hp : 2 ^ n ≤ 2 ^ 40 := Nat.pow_le_pow_right (by decide) hn
  unfold barscanref08_power.f
  have := power_l0 n 0 n 1 k (by omega) hn (by omega) (by omega)
  simpa using this

theorem halves_l0 (f : Nat → Int → Int → Option Int) (hf : ∀ k x a, f (k + 1) x a = if x > 1 then f k (wrap64 (Int.tdiv x 2)) (wrap64 (a + 1)) else some a) :
    ∀ (n x a k : Nat), 2 ^ n ≤ x → x < 2 ^ (n + 1) → x < 4294967296 → a + n < 100000 → n < k → f k (x : Int) (a : Int) = some ((a + n : Nat) : Int) := by
  intro n
  induction n with
  | zero =>
    intro x a k h0 h1 _ _ hk
    obtain ⟨k, rfl⟩ : ∃ m, k = m + 1 := ⟨k - 1, by omega⟩
    simp at h0 h1
    rw [hf, if_neg (by omega)]
    rfl
  | succ n ih =>
    intro x a k h0 h1 hx ha hk
    obtain ⟨k, rfl⟩ : ∃ m, k = m + 1 := ⟨k - 1, by omega⟩
    rw [Nat.pow_succ] at h0 h1
    have hp := Nat.two_pow_pos n
    rw [hf, if_pos (by omega), Int.tdiv_eq_ediv_of_nonneg (by omega), show wrap64 ((x : Int) / 2) = ((x / 2 : Nat) : Int) by rw [wr (by omega) (by omega)]; omega,
      show wrap64 ((a : Int) + 1) = ((a + 1 : Nat) : Int) by rw [wr (by omega) (by omega)]; omega]
    rw [ih (x / 2) (a + 1) k (by omega) (by omega) (by omega) (by omega) (by omega)]
    congr 2
    omega

theorem rdegree_nat (c : Code kk g d) (k : Nat) (hk : 40 ≤ k) : barscanref08_degree.f k (g : Int) = some (d : Int) := by
  have h18 := c.d18; have h19 := c.g19
  unfold barscanref08_degree.f
  have := halves_l0 barscanref08_degree.l0 (fun k x a => rfl) d g 0 k c.lo c.hi (by omega) (by omega) (by omega)
  simpa using this

theorem testBit_iff (p n : Nat) : (p / 2 ^ n % 2 = 1) ↔ p.testBit n = true := by
  rw [Nat.testBit_eq_decide_div_mod_eq, decide_eq_true_eq]

theorem remainder_l0 (c : Code kk g d) : ∀ (j p k : Nat), d + j ≤ 31 → p < 2147483648 → j + 50 ≤ k →
    barscanref08_remainder.l0 k (p : Int) (g : Int) (d : Int) ((d : Int) + (j : Int) - 1) = some ((remN g d j p : Nat) : Int) := by
  have hd := c.d18
  intro j
  induction j with
  | zero =>
    intro p k _ hp hk
    obtain ⟨k, rfl⟩ : ∃ m, k = m + 1 := ⟨k - 1, by omega⟩
    simp only [barscanref08_remainder.l0]
    rw [if_neg (by omega)]
    rfl
  | succ j ih =>
    intro p k hj hp hk
    obtain ⟨k, rfl⟩ : ∃ m, k = m + 1 := ⟨k - 1, by omega⟩
    have hpow : 2 ^ (d + j) ≤ 2 ^ 30 := Nat.pow_le_pow_right (by decide) (by omega)
    have hpos := Nat.two_pow_pos (d + j)
    have hg31 : g * 2 ^ j < 2 ^ 32 := by
      have h1 : g * 2 ^ j < 2 ^ (d + 1) * 2 ^ j := Nat.mul_lt_mul_of_pos_right c.hi (Nat.two_pow_pos j)
      rw [← Nat.pow_add] at h1
      exact Nat.lt_of_lt_of_le h1 (Nat.pow_le_pow_right (by decide) (by omega))
    simp only [barscanref08_remainder.l0]
    have ei : (d : Int) + ((j + 1 : Nat) : Int) - 1 = ((d + j : Nat) : Int) := by omega
    rw [ei, if_pos (by omega), power_nat (d + j) k (by omega) (by omega), Option.bind_some, if_neg (by omega)]
    have eq : wrap64 (Int.tdiv (p : Int) ((2 ^ (d + j) : Nat) : Int)) = ((p / 2 ^ (d + j) : Nat) : Int) := by
      have hle := Nat.div_le_self p (2 ^ (d + j))
      rw [Int.tdiv_eq_ediv_of_nonneg (by omega), ← Int.natCast_ediv]
      exact wrn _ (by omega)
    have e1 : wrap64 (((d + j : Nat) : Int) - 1) = (d : Int) + (j : Int) - 1 := by rw [wr (by omega) (by omega)]; omega
    have e2 : wrap64 (((d + j : Nat) : Int) - (d : Int)) = (j : Int) := by rw [wr (by omega) (by omega)]; omega
    have er : ∀ q, remN g d (j + 1) q = remN g d j (if q.testBit (d + j) then q ^^^ (g <<< j) else q) := fun _ => rfl
    rw [eq, Int.tmod_eq_emod_of_nonneg (Int.natCast_nonneg _), e1, e2, er p]
    have hti := testBit_iff p (d + j)
    generalize hqq : p / 2 ^ (d + j) = q at hti
    by_cases hb : p.testBit (d + j) = true
    · have hq := hti.2 hb
      rw [if_pos (by omega), power_nat j k (by omega) (by omega), Option.bind_some]
      have e3 : wrap64 ((g : Int) * ((2 ^ j : Nat) : Int)) = ((g <<< j : Nat) : Int) := by
        rw [Nat.shiftLeft_eq, ← Int.natCast_mul]
        exact wrn _ (by omega)
      have hgs : g <<< j < 2 ^ 31 := by
        rw [Nat.shiftLeft_eq]
        have h1 : g * 2 ^ j < 2 ^ (d + 1) * 2 ^ j := Nat.mul_lt_mul_of_pos_right c.hi (Nat.two_pow_pos j)
        rw [← Nat.pow_add] at h1
        exact Nat.lt_of_lt_of_le h1 (Nat.pow_le_pow_right (by decide) (by omega))
      have hx : p ^^^ g <<< j < 2 ^ 31 := Nat.xor_lt_two_pow (by omega) hgs
      have hi := ih (p ^^^ g <<< j) k (by omega) (Nat.lt_of_lt_of_le hx (by decide)) (by omega)
      have hg63 : g <<< j < 9223372036854775808 := Nat.lt_trans hgs (by decide)
      rw [e3, xor_nat p (g <<< j) (by omega) hg63, hi, if_pos hb]
    · have hq : ¬ (q % 2 = 1) := fun h => hb (hti.1 h)
      have hi := ih p k (by omega) (by omega) (by omega)
      rw [if_neg (by omega), hi, if_neg hb]

theorem rcodeword_nat (c : Code kk g d) (v k : Nat) (hv : v < 2 ^ kk) (hk : 100 ≤ k) : barscanref08_codeword.f k (v : Int) (g : Int) = some (cw g d v : Int) := by
  have hd := c.d18; have h12 := c.k12
  have hs := shl_lt v kk d hv
  have hs31 : v <<< d < 2 ^ 30 := Nat.lt_of_lt_of_le hs (Nat.pow_le_pow_right (by decide) (by omega))
  have hs31' : v * 2 ^ d < 2 ^ 30 := by rw [← Nat.shiftLeft_eq]; exact hs31
  have hc := cw31 c v hv
  unfold barscanref08_codeword.f
  rw [rdegree_nat c k (by omega), Option.bind_some, power_nat d k (by omega) (by omega), Option.bind_some]
  have e1 : wrap64 ((v : Int) * ((2 ^ d : Nat) : Int)) = ((v <<< d : Nat) : Int) := by
    rw [Nat.shiftLeft_eq, ← Int.natCast_mul]
    exact wrn _ (by omega)
  rw [e1]
  unfold barscanref08_remainder.f
  rw [rdegree_nat c k (by omega), Option.bind_some]
  have e30 : (30 : Int) = (d : Int) + ((31 - d : Nat) : Int) - 1 := by omega
  rw [e30, remainder_l0 c (31 - d) (v <<< d) k (by omega) (by omega) (by omega), Option.bind_some]
  have ha := cw_add g d kk v c.lo c.hi c.kd hv
  rw [← Nat.shiftLeft_eq] at ha
  rw [show (((v <<< d : Nat) : Int) + ((remN g d (31 - d) (v <<< d) : Nat) : Int)) = ((cw g d v : Nat) : Int) by omega, wrn _ (by omega)]

theorem weight_l0 (F : Nat → Int → Int → Option Int) (hF : ∀ k x a, F (k + 1) x a = if x > 0 then F k (wrap64 (Int.tdiv x 2)) (wrap64 (a + Int.tmod x 2)) else some a) :
    ∀ (f x a k : Nat), x < 2 ^ f → x < 4294967296 → a + f < 100000 → f < k → F k (x : Int) (a : Int) = some ((a + wtA f x : Nat) : Int) := by
  intro f
  induction f with
  | zero =>
    intro x a k h0 h1 _ hk
    obtain ⟨k, rfl⟩ : ∃ m, k = m + 1 := ⟨k - 1, by omega⟩
    simp at h0
    rw [hF, if_neg (by omega)]
    rfl
  | succ f ih =>
    intro x a k h0 h1 ha hk
    obtain ⟨k, rfl⟩ : ∃ m, k = m + 1 := ⟨k - 1, by omega⟩
    rw [hF]
    by_cases hx : x = 0
    · subst hx
      rw [if_neg (by omega), wtA_zero]
      rfl
    · rw [Nat.pow_succ] at h0
      rw [if_pos (by omega), Int.tdiv_eq_ediv_of_nonneg (by omega), Int.tmod_eq_emod_of_nonneg (by omega), show wrap64 ((x : Int) / 2) = ((x / 2 : Nat) : Int) by rw [wr (by omega) (by omega)]; omega,
        show wrap64 ((a : Int) + (x : Int) % 2) = ((a + x % 2 : Nat) : Int) by rw [wr (by omega) (by omega)]; omega]
      rw [ih (x / 2) (a + x % 2) k (by omega) (by omega) (by omega) (by omega), wtA, Nat.add_assoc]
theorem Weight_nat (x k : Nat) (hx : x < 2 ^ 31) (hk : 100 ≤ k) : barscanref08_Weight.f k (x : Int) = some (wt x : Int) := by
  unfold barscanref08_Weight.f
  have := weight_l0 barscanref08_Weight.l0 (fun k x a => rfl) 64 x 0 k (by omega) (by omega) (by omega) (by omega)
  simpa [wt] using this

end
end Go.Proofs.Ytbbnagjfjgkgjaa.Ev
