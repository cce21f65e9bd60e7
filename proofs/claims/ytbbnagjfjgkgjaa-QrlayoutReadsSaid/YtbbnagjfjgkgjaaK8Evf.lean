/- A part of the claim. -/
import Derived.Test.YtbbnagjfjgkgjaaK8Eve
namespace Go.Proofs.Ytbbnagjfjgkgjaa.Ev
open Go.RowKit Go.Proofs.Ytbbnagjfjgkgjaa.L Go.Proofs.Ytbbnagjfjgkgjaa.Math Go.Proofs.YtbbnagjfjgkgjaaW.PrintWords Go.Proofs.YtbbnagjfjgkgjaaW.PrintLast Go.Proofs.YtbbnagjfjgkgjaaW.PrintMore

def lvl (q : Nat) : Int := if q = 0 then 2 else if q = 1 then 1 else if q = 2 then 4 else 3
theorem lev_lvl (q : Nat) (h : q < 4) : lev (lvl q) = q := by
  have : q = 0 ∨ q = 1 ∨ q = 2 ∨ q = 3 := by omega
  rcases this with rfl | rfl | rfl | rfl <;> rfl
theorem lvl_lev (l : Int) (h0 : 1 ≤ l) (h : l ≤ 4) : lvl (lev l) = l := by
  have : l = 1 ∨ l = 2 ∨ l = 3 ∨ l = 4 := by omega
  rcases this with rfl | rfl | rfl | rfl <;> rfl
theorem lev_lt (l : Int) : lev l < 4 := by
  unfold lev
  split
  · omega
  · split
    · omega
    · split <;> omega
theorem bt0 : wrap64 (bt (⟨#[2, 1, 4, 3]⟩ : ByteArray) 0) = 2 := by kernel_rfl
theorem bt1 : wrap64 (bt (⟨#[2, 1, 4, 3]⟩ : ByteArray) 1) = 1 := by kernel_rfl
theorem bt2 : wrap64 (bt (⟨#[2, 1, 4, 3]⟩ : ByteArray) 2) = 4 := by kernel_rfl
theorem bt3 : wrap64 (bt (⟨#[2, 1, 4, 3]⟩ : ByteArray) 3) = 3 := by kernel_rfl
theorem lvl_bt (q : Nat) (h : q < 4) : wrap64 (bt (⟨#[2, 1, 4, 3]⟩ : ByteArray) (q : Int)) = lvl q := by
  have : q = 0 ∨ q = 1 ∨ q = 2 ∨ q = 3 := by omega
  rcases this with rfl | rfl | rfl | rfl
  · exact bt0
  · exact bt1
  · exact bt2
  · exact bt3

def pfmt (word : Nat) : Option Nat → Int × Int × Int × Int
  | none => (0, 0, 0, 21)
  | some v => (lvl (v / 8), ((v % 8 : Nat) : Int), (wt ((word ^^^ 21522) ^^^ cw 1335 10 v) : Int), 0)

theorem hit_lt {kk g d word most v : Nat} (h : hit kk g d word most = some v) : v < 2 ^ kk ∧ wt (word ^^^ cw g d v) ≤ most := by
  obtain ⟨_, h1, h2⟩ := first_some _ _ _ _ h
  exact ⟨by omega, of_decide_eq_true h2⟩

theorem ParseFormat_nat (word k : Nat) (hw : word < 32768) (hk : 6000 ≤ k) : bch_ParseFormat.f k (word : Int) = some (pfmt word (hit 5 1335 10 (word ^^^ 21522) 3)) := by
  obtain ⟨m, rfl⟩ : ∃ m, k = m + 1 := ⟨k - 1, by omega⟩
  have hx : word ^^^ 21522 < 2 ^ 15 := Nat.xor_lt_two_pow (by omega) (by decide)
  unfold bch_ParseFormat.f
  rw [if_neg (by omega), bch_ParseFormat.j0, if_neg (by rw [decide_eq_true_eq]; omega)]
  have hf := find_nat codeF (word ^^^ 21522) 3 m (by omega) (by omega)
  rw [show ((5 : Nat) : Int) = 5 from rfl, show ((1335 : Nat) : Int) = 1335 from rfl, show ((3 : Nat) : Int) = 3 from rfl] at hf
  rw [show (21522 : Int) = ((21522 : Nat) : Int) from rfl, xor_nat word 21522 (by omega) (by decide), hf, Option.bind_some]
  cases hh : hit 5 1335 10 (word ^^^ 21522) 3 with
  | none => rfl
  | some v =>
    have hv := (hit_lt hh).1
    show (if (true : Bool) = true then _ else _) = _
    rw [if_pos rfl]
    show (if 0 ≤ wrap64 (Int.tdiv (v : Int) 8) then (if wrap64 (Int.tdiv (v : Int) 8) < 4 then some (wrap64 (bt (⟨#[2, 1, 4, 3]⟩ : ByteArray) (wrap64 (Int.tdiv (v : Int) 8))), Int.tmod (v : Int) 8, (wt ((word ^^^ 21522) ^^^ cw 1335 10 v) : Int), 0) else none) else none) = _
    have e : wrap64 (Int.tdiv (v : Int) 8) = ((v / 8 : Nat) : Int) := by
      rw [Int.tdiv_eq_ediv_of_nonneg (by omega), wr (by omega) (by omega)]
      omega
    rw [e, if_pos (by omega), if_pos (by omega), lvl_bt (v / 8) (by omega), Int.tmod_eq_emod_of_nonneg (by omega)]
    rfl
def far (word u : Nat) : Nat := wt ((word ^^^ 21522) ^^^ cw 1335 10 u)

end Go.Proofs.Ytbbnagjfjgkgjaa.Ev
