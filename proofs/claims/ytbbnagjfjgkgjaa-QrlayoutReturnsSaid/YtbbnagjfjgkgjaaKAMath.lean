/- A part of the claim. -/
import Derived.Lib.BitFns
namespace Go.Proofs.Ytbbnagjfjgkgjaa.Math

def wtA : Nat → Nat → Nat
  | 0, _ => 0
  | f + 1, n => n % 2 + wtA f (n / 2)
def wt (n : Nat) : Nat := wtA 64 n

theorem wtA_fuel : ∀ (f n : Nat), n < 2 ^ f → ∀ g, f ≤ g → wtA g n = wtA f n
  | 0, n, h, g, _ => by
    have : n = 0 := by simpa using h
    subst this
    clear h
    induction g with
    | zero => rfl
    | succ g ih => simp only [wtA, Nat.zero_mod, Nat.zero_div, Nat.zero_add]; simpa [wtA] using ih (by omega)
  | f + 1, n, h, g, hg => by
    obtain ⟨g', rfl⟩ : ∃ g', g = g' + 1 := ⟨g - 1, by omega⟩
    simp only [wtA]
    rw [wtA_fuel f (n / 2) (by rw [Nat.pow_succ] at h; omega) g' (by omega)]

theorem wtA_zero (f : Nat) : wtA f 0 = 0 := by
  have := wtA_fuel 0 0 (by simp) f (by omega)
  simpa [wtA] using this

theorem xor_half (a b : Nat) : (a ^^^ b) / 2 = a / 2 ^^^ b / 2 := by
  have := @Nat.shiftRight_xor_distrib 1 a b
  simpa [Nat.shiftRight_eq_div_pow] using this

theorem xor_odd (a b : Nat) : (a ^^^ b) % 2 = (a + b) % 2 := by
  have h := @Nat.xor_mod_two_pow a b 1
  simp only [Nat.pow_one] at h
  rw [h]
  rcases Nat.mod_two_eq_zero_or_one a with ha | ha <;> rcases Nat.mod_two_eq_zero_or_one b with hb | hb <;> rw [ha, hb] <;> simp <;> omega

theorem wtA_xor_le : ∀ (f a b : Nat), wtA f (a ^^^ b) ≤ wtA f a + wtA f b
  | 0, _, _ => Nat.le_refl _
  | f + 1, a, b => by
    simp only [wtA]
    rw [xor_half]
    have h := wtA_xor_le f (a / 2) (b / 2)
    have m := xor_odd a b
    omega

theorem wt_xor_le (a b : Nat) : wt (a ^^^ b) ≤ wt a + wt b := wtA_xor_le 64 a b
theorem wt_zero : wt 0 = 0 := wtA_zero 64
theorem wt_half (n : Nat) (h : n < 2 ^ 64) : wt n = n % 2 + wt (n / 2) := by
  unfold wt
  rw [← wtA_fuel 64 n h 65 (by omega)]
  simp only [wtA]

theorem wt_byte (y b : Nat) (hb : b < 256) (hy : 256 * y + b < 2 ^ 64) : wt (256 * y + b) = wt y + wt b := by
  have e : ∀ n, n < 2 ^ 64 → wt n = n % 2 + (n / 2 % 2 + (n / 4 % 2 + (n / 8 % 2 + (n / 16 % 2 + (n / 32 % 2 + (n / 64 % 2 + (n / 128 % 2 + wt (n / 256)))))))) := by
    intro n hn
    have h1 := wt_half n hn
    have h2 := wt_half (n / 2) (by omega)
    have h3 := wt_half (n / 2 / 2) (by omega)
    have h4 := wt_half (n / 2 / 2 / 2) (by omega)
    have h5 := wt_half (n / 2 / 2 / 2 / 2) (by omega)
    have h6 := wt_half (n / 2 / 2 / 2 / 2 / 2) (by omega)
    have h7 := wt_half (n / 2 / 2 / 2 / 2 / 2 / 2) (by omega)
    have h8 := wt_half (n / 2 / 2 / 2 / 2 / 2 / 2 / 2) (by omega)
    simp only [Nat.div_div_eq_div_mul, Nat.reduceMul] at h1 h2 h3 h4 h5 h6 h7 h8
    omega
  have hb64 : b < 2 ^ 64 := by omega
  rw [e _ hy, e b hb64, show b / 256 = 0 by omega, wt_zero, show (256 * y + b) / 256 = y by omega]
  omega

def remN (g d : Nat) : Nat → Nat → Nat
  | 0, p => p
  | j + 1, p => remN g d j (if p.testBit (d + j) then p ^^^ (g <<< j) else p)

theorem remN_xor (g d : Nat) : ∀ (j a b : Nat), remN g d j (a ^^^ b) = remN g d j a ^^^ remN g d j b
  | 0, _, _ => rfl
  | j + 1, a, b => by
    simp only [remN]
    rw [← remN_xor g d j]
    congr 1
    rw [Nat.testBit_xor]
    cases ha : a.testBit (d + j) <;> cases hb : b.testBit (d + j) <;> simp
    · rw [Nat.xor_assoc]
    · rw [Nat.xor_assoc a, Nat.xor_assoc a, Nat.xor_comm (g <<< j) b]
    · rw [Nat.xor_assoc a, Nat.xor_comm (g <<< j), Nat.xor_assoc b, Nat.xor_self, Nat.xor_zero]

theorem top_bit (g d : Nat) (h0 : 2 ^ d ≤ g) (h1 : g < 2 ^ (d + 1)) : g.testBit d = true := by
  rw [Nat.testBit_eq_decide_div_mod_eq]
  have : g / 2 ^ d = 1 := Nat.div_eq_of_lt_le (by omega) (by rw [Nat.pow_succ] at h1; omega)
  simp [this]

theorem step_lt (g d j p : Nat) (h0 : 2 ^ d ≤ g) (h1 : g < 2 ^ (d + 1)) (hp : p < 2 ^ (d + j + 1)) (hb : p.testBit (d + j) = true) : p ^^^ (g <<< j) < 2 ^ (d + j) := by
  apply Nat.lt_pow_two_of_testBit
  intro i hi
  rw [Nat.testBit_xor, Nat.testBit_shiftLeft]
  by_cases e : i = d + j
  · subst e
    rw [hb, show d + j - j = d by omega, top_bit g d h0 h1]
    simp
  · have hp' : p.testBit i = false := Nat.testBit_lt_two_pow (Nat.lt_of_lt_of_le hp (Nat.pow_le_pow_right (by decide) (by omega)))
    have hg' : g.testBit (i - j) = false := Nat.testBit_lt_two_pow (Nat.lt_of_lt_of_le h1 (Nat.pow_le_pow_right (by decide) (by omega)))
    simp [hp', hg']

theorem low_lt (p n : Nat) (hp : p < 2 ^ (n + 1)) (hb : p.testBit n = false) : p < 2 ^ n := by
  apply Nat.lt_pow_two_of_testBit
  intro i hi
  by_cases e : i = n
  · rw [e]; exact hb
  · exact Nat.testBit_lt_two_pow (Nat.lt_of_lt_of_le hp (Nat.pow_le_pow_right (by decide) (by omega)))

theorem remN_lt (g d : Nat) (h0 : 2 ^ d ≤ g) (h1 : g < 2 ^ (d + 1)) : ∀ (j p : Nat), p < 2 ^ (d + j) → remN g d j p < 2 ^ d
  | 0, p, h => h
  | j + 1, p, h => by
    simp only [remN]
    apply remN_lt g d h0 h1 j
    cases hb : p.testBit (d + j) with
    | true => simp only [if_true]; exact step_lt g d j p h0 h1 h hb
    | false => simp only [Bool.false_eq_true, if_false]; exact low_lt p (d + j) h hb

def cw (g d v : Nat) : Nat := (v <<< d) ^^^ remN g d (31 - d) (v <<< d)

theorem shiftLeft_xor (a b d : Nat) : (a ^^^ b) <<< d = (a <<< d) ^^^ (b <<< d) := Nat.shiftLeft_xor_distrib
theorem cw_xor (g d a b : Nat) : cw g d (a ^^^ b) = cw g d a ^^^ cw g d b := by
  unfold cw
  rw [shiftLeft_xor, remN_xor]
  rw [Nat.xor_assoc, Nat.xor_assoc]
  congr 1
  rw [← Nat.xor_assoc, ← Nat.xor_assoc, Nat.xor_comm (b <<< d)]

theorem shl_lt (v k d : Nat) (h : v < 2 ^ k) : v <<< d < 2 ^ (d + k) := by
  rw [Nat.shiftLeft_eq, Nat.pow_add, Nat.mul_comm]
  exact Nat.mul_lt_mul_of_pos_left h (Nat.two_pow_pos d)

theorem check_lt (g d k v : Nat) (h0 : 2 ^ d ≤ g) (h1 : g < 2 ^ (d + 1)) (hk : k + d ≤ 31) (h : v < 2 ^ k) : remN g d (31 - d) (v <<< d) < 2 ^ d := by
  apply remN_lt g d h0 h1
  exact Nat.lt_of_lt_of_le (shl_lt v k d h) (Nat.pow_le_pow_right (by decide) (by omega))

theorem cw_lt (g d k v : Nat) (h0 : 2 ^ d ≤ g) (h1 : g < 2 ^ (d + 1)) (hk : k + d ≤ 31) (h : v < 2 ^ k) : cw g d v < 2 ^ (k + d) := by
  unfold cw
  rw [Nat.add_comm k d]
  apply Nat.xor_lt_two_pow (shl_lt v k d h)
  exact Nat.lt_of_lt_of_le (check_lt g d k v h0 h1 hk h) (Nat.pow_le_pow_right (by decide) (by omega))

theorem cw_or (g d k v : Nat) (h0 : 2 ^ d ≤ g) (h1 : g < 2 ^ (d + 1)) (hk : k + d ≤ 31) (h : v < 2 ^ k) : (v <<< d) ||| remN g d (31 - d) (v <<< d) = cw g d v := by
  have hr := check_lt g d k v h0 h1 hk h
  unfold cw
  apply Nat.eq_of_testBit_eq
  intro i
  rw [Nat.testBit_or, Nat.testBit_xor, Nat.testBit_shiftLeft]
  by_cases hi : d ≤ i
  · have : (remN g d (31 - d) (v <<< d)).testBit i = false := Nat.testBit_lt_two_pow (Nat.lt_of_lt_of_le hr (Nat.pow_le_pow_right (by decide) hi))
    simp [this]
  · simp [hi]
def least (f : Nat → Nat) : Nat → Nat → Nat → Nat
  | 0, acc, _ => acc
  | n + 1, acc, v => least f n (min acc (f v)) (v + 1)

theorem least_le_acc (f : Nat → Nat) : ∀ (n acc v : Nat), least f n acc v ≤ acc
  | 0, _, _ => Nat.le_refl _
  | n + 1, _, _ => Nat.le_trans (least_le_acc f n _ _) (Nat.min_le_left _ _)
theorem least_le (f : Nat → Nat) : ∀ (n acc v u : Nat), v ≤ u → u < v + n → least f n acc v ≤ f u
  | 0, _, _, _, h, h' => by omega
  | n + 1, acc, v, u, h, h' => by
    simp only [least]
    by_cases e : u = v
    · subst e
      exact Nat.le_trans (least_le_acc f n _ _) (Nat.min_le_right _ _)
    · exact least_le f n _ _ u (by omega) (by omega)
def first (p : Nat → Bool) : Nat → Nat → Option Nat
  | 0, _ => none
  | n + 1, v => if p v then some v else first p n (v + 1)

theorem first_some (p : Nat → Bool) : ∀ (n v u : Nat), first p n v = some u → v ≤ u ∧ u < v + n ∧ p u = true
  | 0, _, _, h => by simp [first] at h
  | n + 1, v, u, h => by
    simp only [first] at h
    by_cases hp : p v = true
    · rw [if_pos hp] at h
      obtain rfl := Option.some.inj h
      exact ⟨Nat.le_refl _, by omega, hp⟩
    · rw [if_neg hp] at h
      have := first_some p n (v + 1) u h
      exact ⟨by omega, by omega, this.2.2⟩
theorem first_none (p : Nat → Bool) : ∀ (n v : Nat), first p n v = none → ∀ u, v ≤ u → u < v + n → p u = false
  | 0, _, _, _, h, h' => by omega
  | n + 1, v, h, u, h1, h2 => by
    simp only [first] at h
    by_cases hp : p v = true
    · rw [if_pos hp] at h; simp at h
    · rw [if_neg hp] at h
      by_cases e : u = v
      · subst e; simpa using hp
      · exact first_none p n (v + 1) h u (by omega) (by omega)
theorem first_only (p : Nat → Bool) (n v u : Nat) (h1 : v ≤ u) (h2 : u < v + n) (hp : p u = true) (ho : ∀ t, v ≤ t → t < v + n → p t = true → t = u) : first p n v = some u := by
  cases h : first p n v with
  | none => have := first_none p n v h u h1 h2; rw [hp] at this; cases this
  | some t =>
    have := first_some p n v t h
    rw [ho t this.1 this.2.1 this.2.2]

theorem near_unique (g d k n u v word t : Nat) (hu : u < 2 ^ k) (hv : v < 2 ^ k)
    (hmin : ∀ x, x < 2 ^ k → x ≠ 0 → n ≤ wt (cw g d x)) (ht : 2 * t < n) (h1 : wt (word ^^^ cw g d u) ≤ t) (h2 : wt (word ^^^ cw g d v) ≤ t) : u = v := by
  apply Classical.byContradiction
  intro hne
  have hx : u ^^^ v ≠ 0 := by
    intro e
    have e2 : (u ^^^ v) ^^^ v = 0 ^^^ v := by rw [e]
    rw [Nat.xor_assoc, Nat.xor_self, Nat.xor_zero, Nat.zero_xor] at e2
    exact hne e2
  have hw := hmin (u ^^^ v) (Nat.xor_lt_two_pow hu hv) hx
  rw [cw_xor] at hw
  have e : cw g d u ^^^ cw g d v = (word ^^^ cw g d u) ^^^ (word ^^^ cw g d v) := by
    rw [Nat.xor_comm word (cw g d u), Nat.xor_assoc, ← Nat.xor_assoc word word, Nat.xor_self, Nat.zero_xor]
  rw [e] at hw
  have := wt_xor_le (word ^^^ cw g d u) (word ^^^ cw g d v)
  omega

end Go.Proofs.Ytbbnagjfjgkgjaa.Math
