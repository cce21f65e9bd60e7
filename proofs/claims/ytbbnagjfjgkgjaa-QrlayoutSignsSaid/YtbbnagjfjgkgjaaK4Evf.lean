/- A part of the claim. -/
import Derived.Test.YtbbnagjfjgkgjaaK4Eve
namespace Go.Proofs.Ytbbnagjfjgkgjaa.Ev
open Go.RowKit Go.Proofs.Ytbbnagjfjgkgjaa.L Go.Proofs.Ytbbnagjfjgkgjaa.Math Go.Proofs.YtbbnagjfjgkgjaaW.PrintWords Go.Proofs.YtbbnagjfjgkgjaaW.PrintLast Go.Proofs.YtbbnagjfjgkgjaaW.PrintMore

def lvl (q : Nat) : Int := if q = 0 then 2 else if q = 1 then 1 else if q = 2 then 4 else 3
theorem lvl_in (q : Nat) : 1 ≤ lvl q ∧ lvl q ≤ 4 := by
  unfold lvl
  split
  · omega
  · split
    · omega
    · split <;> omega
theorem lev_lvl (q : Nat) (h : q < 4) : lev (lvl q) = q := by
  have : q = 0 ∨ q = 1 ∨ q = 2 ∨ q = 3 := by omega
  rcases this with rfl | rfl | rfl | rfl <;> rfl
theorem lvl_lev (l : Int) (h0 : 1 ≤ l) (h : l ≤ 4) : lvl (lev l) = l := by
  have : l = 1 ∨ l = 2 ∨ l = 3 ∨ l = 4 := by omega
  rcases this with rfl | rfl | rfl | rfl <;> rfl
theorem lev_lt (l : Int) : lev l < 4 := by
  unfold lev
  split
  · omega
  · split
    · omega
    · split <;> omega
theorem bt0 : wrap64 (bt (⟨#[2, 1, 4, 3]⟩ : ByteArray) 0) = 2 := by kernel_rfl
theorem bt1 : wrap64 (bt (⟨#[2, 1, 4, 3]⟩ : ByteArray) 1) = 1 := by kernel_rfl
theorem bt2 : wrap64 (bt (⟨#[2, 1, 4, 3]⟩ : ByteArray) 2) = 4 := by kernel_rfl
theorem bt3 : wrap64 (bt (⟨#[2, 1, 4, 3]⟩ : ByteArray) 3) = 3 := by kernel_rfl
theorem lvl_bt (q : Nat) (h : q < 4) : wrap64 (bt (⟨#[2, 1, 4, 3]⟩ : ByteArray) (q : Int)) = lvl q := by
  have : q = 0 ∨ q = 1 ∨ q = 2 ∨ q = 3 := by omega
  rcases this with rfl | rfl | rfl | rfl
  · exact bt0
  · exact bt1
  · exact bt2
  · exact bt3

def pfmt (word : Nat) : Option Nat → Int × Int × Int × Int
  | none => (0, 0, 0, 21)
  | some v => (lvl (v / 8), ((v % 8 : Nat) : Int), (wt ((word ^^^ 21522) ^^^ cw 1335 10 v) : Int), 0)

theorem hit_lt {kk g d word most v : Nat} (h : hit kk g d word most = some v) : v < 2 ^ kk ∧ wt (word ^^^ cw g d v) ≤ most := by
  obtain ⟨_, h1, h2⟩ := first_some _ _ _ _ h
  exact ⟨by omega, of_decide_eq_true h2⟩

theorem ParseFormat_nat (word k : Nat) (hw : word < 32768) (hk : 6000 ≤ k) : bch_ParseFormat.f k (word : Int) = some (pfmt word (hit 5 1335 10 (word ^^^ 21522) 3)) := by
  obtain ⟨m, rfl⟩ : ∃ m, k = m + 1 := ⟨k - 1, by omega⟩
  have hx : word ^^^ 21522 < 2 ^ 15 := Nat.xor_lt_two_pow (by omega) (by decide)
  unfold bch_ParseFormat.f
  rw [if_neg (by omega), bch_ParseFormat.j0, if_neg (by rw [decide_eq_true_eq]; omega)]
  have hf := find_nat codeF (word ^^^ 21522) 3 m (by omega) (by omega)
  rw [show ((5 : Nat) : Int) = 5 from rfl, show ((1335 : Nat) : Int) = 1335 from rfl, show ((3 : Nat) : Int) = 3 from rfl] at hf
  rw [show (21522 : Int) = ((21522 : Nat) : Int) from rfl, xor_nat word 21522 (by omega) (by decide), hf, Option.bind_some]
  cases hh : hit 5 1335 10 (word ^^^ 21522) 3 with
  | none => rfl
  | some v =>
    have hv := (hit_lt hh).1
    show (if (true : Bool) = true then _ else _) = _
    rw [if_pos rfl]
    show (if 0 ≤ wrap64 (Int.tdiv (v : Int) 8) then (if wrap64 (Int.tdiv (v : Int) 8) < 4 then some (wrap64 (bt (⟨#[2, 1, 4, 3]⟩ : ByteArray) (wrap64 (Int.tdiv (v : Int) 8))), Int.tmod (v : Int) 8, (wt ((word ^^^ 21522) ^^^ cw 1335 10 v) : Int), 0) else none) else none) = _
    have e : wrap64 (Int.tdiv (v : Int) 8) = ((v / 8 : Nat) : Int) := by
      rw [Int.tdiv_eq_ediv_of_nonneg (by omega), wr (by omega) (by omega)]
      omega
    rw [e, if_pos (by omega), if_pos (by omega), lvl_bt (v / 8) (by omega), Int.tmod_eq_emod_of_nonneg (by omega)]
    rfl
def far (word u : Nat) : Nat := wt ((word ^^^ 21522) ^^^ cw 1335 10 u)

theorem l1_step (word : Nat) (hw : word < 32768) (l : Int) (hl : 1 ≤ l ∧ l ≤ 4) (m k : Nat) (hm : m < 8) (hk : 100 ≤ k) :
    barscanref08_ParseFormat.l1 (k + 1) (word : Int) l (m : Int) =
      if far word (8 * lev l + m) ≤ 3 then some (l, (m : Int), (far word (8 * lev l + m) : Int), 0) else barscanref08_ParseFormat.l1 k (word : Int) l ((m + 1 : Nat) : Int) := by
  have hlev := lev_lt l
  have h31 := cw31 codeF (8 * lev l + m) (by omega)
  have hx : cw 1335 10 (8 * lev l + m) ^^^ 21522 < 2 ^ 30 := Nat.xor_lt_two_pow h31 (by decide)
  have hx2 : (cw 1335 10 (8 * lev l + m) ^^^ 21522) ^^^ word < 2 ^ 30 := Nat.xor_lt_two_pow hx (by omega)
  rw [barscanref08_ParseFormat.l1, if_pos (by omega), rFormat_nat l (m : Int) k hk, Option.bind_some]
  have ef : fmt l (m : Int) = (((cw 1335 10 (8 * lev l + m) ^^^ 21522 : Nat) : Int), 0) := by
    unfold fmt
    rw [if_neg (by omega), if_neg (by omega)]
    rfl
  rw [ef, xor_nat _ word (by omega) (by omega), Weight_nat _ k (by omega) hk, Option.bind_some]
  have ex : (cw 1335 10 (8 * lev l + m) ^^^ 21522) ^^^ word = (word ^^^ 21522) ^^^ cw 1335 10 (8 * lev l + m) := by
    rw [Nat.xor_comm _ word, Nat.xor_comm (cw 1335 10 (8 * lev l + m)) 21522, ← Nat.xor_assoc]
  rw [ex, show wrap64 ((m : Int) + 1) = ((m + 1 : Nat) : Int) by rw [wr (by omega) (by omega)]; omega]
  show (if (far word (8 * lev l + m) : Int) ≤ 3 then some (l, (m : Int), (far word (8 * lev l + m) : Int), 0) else _) = _
  by_cases h : far word (8 * lev l + m) ≤ 3
  · rw [if_pos (by omega), if_pos h]
  · rw [if_neg (by omega), if_neg h]

theorem l1_pass (word : Nat) (hw : word < 32768) (l : Int) (hl : 1 ≤ l ∧ l ≤ 4) : ∀ (n m k : Nat), m + n = 8 → n + 101 ≤ k → (∀ u, m ≤ u → u < 8 → ¬ far word (8 * lev l + u) ≤ 3) →
    barscanref08_ParseFormat.l1 k (word : Int) l (m : Int) = barscanref08_ParseFormat.l0 (k - n - 1) (word : Int) (l + 1) := by
  intro n
  induction n with
  | zero =>
    intro m k hm hk _
    obtain ⟨k, rfl⟩ : ∃ m, k = m + 1 := ⟨k - 1, by omega⟩
    rw [barscanref08_ParseFormat.l1, if_neg (by omega), wr (by omega) (by omega)]
    rfl
  | succ n ih =>
    intro m k hm hk hf
    obtain ⟨k, rfl⟩ : ∃ m, k = m + 1 := ⟨k - 1, by omega⟩
    rw [l1_step word hw l hl m k (by omega) (by omega), if_neg (hf m (by omega) (by omega)), ih (m + 1) k (by omega) (by omega) (fun u h1 h2 => hf u (by omega) h2)]
    congr 1
    omega
theorem l1_find (word : Nat) (hw : word < 32768) (l : Int) (hl : 1 ≤ l ∧ l ≤ 4) (M : Nat) (hM : M < 8) (hn : far word (8 * lev l + M) ≤ 3) : ∀ (n m k : Nat), m + n = M → n + 101 ≤ k → (∀ u, m ≤ u → u < M → ¬ far word (8 * lev l + u) ≤ 3) →
    barscanref08_ParseFormat.l1 k (word : Int) l (m : Int) = some (l, (M : Int), (far word (8 * lev l + M) : Int), 0) := by
  intro n
  induction n with
  | zero =>
    intro m k hm hk _
    obtain rfl : m = M := by omega
    obtain ⟨k, rfl⟩ : ∃ m, k = m + 1 := ⟨k - 1, by omega⟩
    rw [l1_step word hw l hl m k (by omega) (by omega), if_pos hn]
  | succ n ih =>
    intro m k hm hk hf
    obtain ⟨k, rfl⟩ : ∃ m, k = m + 1 := ⟨k - 1, by omega⟩
    rw [l1_step word hw l hl m k (by omega) (by omega), if_neg (hf m (by omega) (by omega)), ih (m + 1) k (by omega) (by omega) (fun u h1 h2 => hf u (by omega) h2)]

theorem l0_none (word : Nat) (hw : word < 32768) (hf : ∀ u, u < 32 → ¬ far word u ≤ 3) : ∀ (n k : Nat) (l : Int), l + n = 5 → 1 ≤ l → 20 * n + 200 ≤ k →
    barscanref08_ParseFormat.l0 k (word : Int) l = some (0, 0, 0, 21) := by
  intro n
  induction n with
  | zero =>
    intro k l hl _ hk
    obtain ⟨k, rfl⟩ : ∃ m, k = m + 1 := ⟨k - 1, by omega⟩
    rw [barscanref08_ParseFormat.l0, if_neg (by omega)]
  | succ n ih =>
    intro k l hl h1 hk
    obtain ⟨k, rfl⟩ : ∃ m, k = m + 1 := ⟨k - 1, by omega⟩
    have hlev := lev_lt l
    have := l1_pass word hw l (by omega) 8 0 k (by omega) (by omega) (fun u _ h2 => hf _ (by omega))
    rw [show ((0 : Nat) : Int) = 0 from rfl] at this
    rw [barscanref08_ParseFormat.l0, if_pos (by omega), this]
    exact ih _ (l + 1) (by omega) (by omega) (by omega)

theorem l0_find (word : Nat) (hw : word < 32768) (v : Nat) (hv : v < 32) (hn : far word v ≤ 3) (ho : ∀ u, u < 32 → far word u ≤ 3 → u = v) : ∀ (n k : Nat) (l : Int), l + n = lvl (v / 8) → 1 ≤ l → 20 * n + 200 ≤ k →
    barscanref08_ParseFormat.l0 k (word : Int) l = some (lvl (v / 8), ((v % 8 : Nat) : Int), (far word v : Int), 0) := by
  intro n
  have hin := lvl_in (v / 8)
  induction n with
  | zero =>
    intro k l hl h1 hk
    obtain rfl : l = lvl (v / 8) := by omega
    obtain ⟨k, rfl⟩ : ∃ m, k = m + 1 := ⟨k - 1, by omega⟩
    have hlv := lev_lvl (v / 8) (by omega)
    have hsplit : 8 * lev (lvl (v / 8)) + v % 8 = v := by rw [hlv]; omega
    have hfar : far word (8 * lev (lvl (v / 8)) + v % 8) ≤ 3 := by rw [hsplit]; exact hn
    have := l1_find word hw (lvl (v / 8)) hin (v % 8) (by omega) hfar (v % 8) 0 k (by omega) (by omega) (fun u _ h2 h3 => by
      have := ho _ (by rw [hlv]; omega) h3
      rw [hlv] at this
      omega)
    rw [show ((0 : Nat) : Int) = 0 from rfl, hsplit] at this
    rw [barscanref08_ParseFormat.l0, if_pos (by omega), this]
  | succ n ih =>
    intro k l hl h1 hk
    obtain ⟨k, rfl⟩ : ∃ m, k = m + 1 := ⟨k - 1, by omega⟩
    have hlev := lev_lt l
    have := l1_pass word hw l (by omega) 8 0 k (by omega) (by omega) (fun u _ h2 h3 => by
      have hu := ho _ (by omega) h3
      have hq : v / 8 = lev l := by omega
      have := lvl_lev l h1 (by omega)
      rw [← hq] at this
      omega)
    rw [show ((0 : Nat) : Int) = 0 from rfl] at this
    rw [barscanref08_ParseFormat.l0, if_pos (by omega), this]
    exact ih _ (l + 1) (by omega) (by omega) (by omega)

theorem rParseFormat_nat (word k : Nat) (hw : word < 32768) (hk : 6000 ≤ k) : barscanref08_ParseFormat.f k (word : Int) = some (pfmt word (hit 5 1335 10 (word ^^^ 21522) 3)) := by
  obtain ⟨m, rfl⟩ : ∃ m, k = m + 1 := ⟨k - 1, by omega⟩
  unfold barscanref08_ParseFormat.f
  rw [if_neg (by omega), barscanref08_ParseFormat.j0, if_neg (by rw [decide_eq_true_eq]; omega)]
  cases hh : hit 5 1335 10 (word ^^^ 21522) 3 with
  | none =>
    have hf : ∀ u, u < 32 → ¬ far word u ≤ 3 := fun u hu h => by
      have := first_none _ _ _ hh u (by omega) (by omega)
      rw [show near 1335 10 (word ^^^ 21522) 3 u = true from decide_eq_true h] at this
      cases this
    exact l0_none word hw hf 4 m 1 (by omega) (by omega) (by omega)
  | some v =>
    obtain ⟨hv, hn⟩ := hit_lt hh
    have hin := lvl_in (v / 8)
    have ho : ∀ u, u < 32 → far word u ≤ 3 → u = v := fun u hu h => near_unique 1335 10 5 7 u v (word ^^^ 21522) 3 (by omega) hv minF' (by decide) h hn
    exact l0_find word hw v (by omega) hn ho (lvl (v / 8) - 1).toNat m 1 (by omega) (by omega) (by omega)
end Go.Proofs.Ytbbnagjfjgkgjaa.Ev
