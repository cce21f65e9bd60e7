/- What qrlayout and its reference say of single modules: the same. -/
import Derived.Test.YtbbnagjfjgkgjaaK4Lx15
import Derived.Test.YtbbnagjfjgkgjaaK4Lx3
namespace Go.Proofs.Ytbbnagjfjgkgjaa.Pure
open Go.RowKit Go.Proofs.Ytbbnagjfjgkgjaa.L Go.Proofs.YtbbnagjfjgkgjaaW.PrintWords Go.Proofs.YtbbnagjfjgkgjaaW.PrintLast Go.Proofs.YtbbnagjfjgkgjaaW.PrintMore
set_option linter.unusedVariables false
set_option linter.unusedSimpArgs false

theorem w64 {n : Int} (h : -9223372036854775808 ≤ n ∧ n ≤ 9223372036854775807) : wrap64 n = n := by unfold wrap64; omega
def farT (x y a b : Int) : Int := mx (mx (mx (x - a) (a - x)) (y - b)) (b - y)
def hit (s x y a b : Int) : Bool := decide (farT x y a b ≤ 2 ∧ ¬ (mn a b = 6 ∧ (mx a b = 6 ∨ mx a b = s - 7)))
structure Bd (s x y : Int) (l : List Int) : Prop where
  s0 : 21 ≤ s
  s1 : s ≤ 177
  x0 : -1000 ≤ x
  x1 : x ≤ 1000
  y0 : -1000 ≤ y
  y1 : y ≤ 1000
  le : ∀ e ∈ l, 6 ≤ e ∧ e ≤ 177
  ll : l.length ≤ 7

theorem valid_yes {v : Int} (h : 1 ≤ v ∧ v ≤ 40) : qrversion_valid.f v = some true := by rw [valid_of, decide_eq_true h]
theorem valid_no {v : Int} (h : ¬ (1 ≤ v ∧ v ≤ 40)) : qrversion_valid.f v = some false := by rw [valid_of, decide_eq_false h]
theorem frame_yes {v : Int} (h : 1 ≤ v ∧ v ≤ 40) (k : Nat) : qrlayout_frameOf.f k v = some (v, 17 + 4 * v, alg v, 0) := by
  unfold qrlayout_frameOf.f qrversion_Size.f qrversion_Aligns.f
  rw [valid_yes h, w64 (n := 4 * v) (by omega), w64 (n := 17 + 4 * v) (by omega)]
  simp [h]
theorem frame_no {v : Int} (h : ¬ (1 ≤ v ∧ v ≤ 40)) (k : Nat) : qrlayout_frameOf.f k v = some (0, 0, [], 14) := by
  unfold qrlayout_frameOf.f qrversion_Size.f
  rw [valid_no h]
  simp
end Go.Proofs.Ytbbnagjfjgkgjaa.Pure
