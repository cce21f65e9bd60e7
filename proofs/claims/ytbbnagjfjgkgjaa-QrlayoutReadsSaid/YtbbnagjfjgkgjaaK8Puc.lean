/- Cells and its reference: the same list. -/
import Derived.Test.YtbbnagjfjgkgjaaK8Lc0
import Derived.Test.YtbbnagjfjgkgjaaK8Pua
namespace Go.Proofs.Ytbbnagjfjgkgjaa.Pure
open Go.RowKit Go.Proofs.Ytbbnagjfjgkgjaa.L Go.Proofs.YtbbnagjfjgkgjaaW.PrintWords Go.Proofs.YtbbnagjfjgkgjaaW.PrintLast Go.Proofs.YtbbnagjfjgkgjaaW.PrintMore
set_option linter.unusedVariables false
set_option linter.unusedSimpArgs false

def sd (v : Int) : Nat := (17 + 4 * v).toNat
def gridL (v : Int) (n : Nat) : List Int := (List.range n).map fun (i : Nat) => cellT v (17 + 4 * v) (alg v) ((i % sd v : Nat) : Int) ((i / sd v : Nat) : Int)
theorem gridL_len (v : Int) (n : Nat) : (gridL v n).length = n := by simp [gridL]
theorem gridL_succ (v : Int) (n : Nat) : gridL v (n + 1) = gridL v n ++ [cellT v (17 + 4 * v) (alg v) ((n % sd v : Nat) : Int) ((n / sd v : Nat) : Int)] := by simp [gridL, List.range_succ]
theorem sd_eq {v : Int} (h : 1 ≤ v ∧ v ≤ 40) : ((sd v : Nat) : Int) = 17 + 4 * v := by unfold sd; omega
theorem sd_bd {v : Int} (h : 1 ≤ v ∧ v ≤ 40) : 21 ≤ sd v ∧ sd v ≤ 177 := by unfold sd; omega

theorem cells_l1 {v : Int} (h : 1 ≤ v ∧ v ≤ 40) (y : Nat) (hy : y < sd v) : ∀ (d k x : Nat), x + d = sd v → 80 ≤ k →
    qrlayout_Cells.l1 (k + d + 1) (gridL v (y * sd v + x)) (y : Int) (17 + 4 * v) (y : Int) (17 + 4 * v) (x : Int) v (17 + 4 * v) (alg v) =
      qrlayout_Cells.l0 k (gridL v ((y + 1) * sd v)) (17 + 4 * v) ((y + 1 : Nat) : Int) v (17 + 4 * v) (alg v)
  | 0, k, x, hx, hk => by
    have hs := sd_eq h; have hb := sd_bd h
    rw [qrlayout_Cells.l1, if_neg (by omega), w64 (n := (y : Int) + 1) (by omega), show y * sd v + x = (y + 1) * sd v by rw [Nat.add_mul]; omega]
    rfl
  | d + 1, k, x, hx, hk => by
    have hs := sd_eq h; have hb := sd_bd h
    have ih := cells_l1 h y hy d k (x + 1) (by omega) hk
    have hyx : y * sd v + x < 177 * 178 := by
      have : y * sd v ≤ 177 * 177 := Nat.mul_le_mul (by omega) (by omega)
      omega
    rw [show k + (d + 1) + 1 = (k + d + 1) + 1 by omega, qrlayout_Cells.l1, if_pos (by omega), cell_eq v (17 + 4 * v) (alg v) (x : Int) (y : Int) (bd_of h (by omega) (by omega)) (k + d + 1) (by omega), Option.bind_some, gridL_len, if_pos (by omega), w64 (n := (x : Int) + 1) (by omega),
      show ((x : Int) + 1) = ((x + 1 : Nat) : Int) by omega, ← ih, ← Nat.add_assoc, gridL_succ]
    have e1 : (y * sd v + x) % sd v = x := by rw [Nat.mul_comm, Nat.mul_add_mod]; exact Nat.mod_eq_of_lt (by omega)
    have e2 : (y * sd v + x) / sd v = y := by rw [Nat.mul_comm, Nat.mul_add_div (by omega), Nat.div_eq_of_lt (by omega), Nat.add_zero]
    rw [e1, e2]
theorem cells_l0 {v : Int} (h : 1 ≤ v ∧ v ≤ 40) : ∀ (d k y : Nat), y + d = sd v → 80 ≤ k →
    qrlayout_Cells.l0 (k + d * (sd v + 2) + 1) (gridL v (y * sd v)) (17 + 4 * v) (y : Int) v (17 + 4 * v) (alg v) = some (gridL v (sd v * sd v), 0)
  | 0, k, y, hy, hk => by
    have hs := sd_eq h
    rw [qrlayout_Cells.l0, if_neg (by omega), show y = sd v by omega]
  | d + 1, k, y, hy, hk => by
    have hs := sd_eq h; have hb := sd_bd h
    have ih := cells_l0 h d k (y + 1) (by omega) hk
    have e : k + (d + 1) * (sd v + 2) + 1 = ((k + d * (sd v + 2) + 1) + sd v + 1) + 1 := by
      rw [Nat.add_mul]; omega
    have h1 := cells_l1 h y (by omega) (sd v) (k + d * (sd v + 2) + 1) 0 (by omega) (by omega)
    simp only [Nat.add_zero] at h1
    rw [show ((0 : Nat) : Int) = 0 from rfl] at h1
    rw [e, qrlayout_Cells.l0, if_pos (by omega), h1, ih]
end Go.Proofs.Ytbbnagjfjgkgjaa.Pure
