/- Cells and its reference: the same list. -/
import Derived.Test.YtbbnagjfjgkgjaaK3Lc0
import Derived.Test.YtbbnagjfjgkgjaaK3Pua
namespace Go.Proofs.Ytbbnagjfjgkgjaa.Pure
open Go.RowKit Go.Proofs.Ytbbnagjfjgkgjaa.L Go.Proofs.YtbbnagjfjgkgjaaW.PrintWords Go.Proofs.YtbbnagjfjgkgjaaW.PrintLast Go.Proofs.YtbbnagjfjgkgjaaW.PrintMore
set_option linter.unusedVariables false
set_option linter.unusedSimpArgs false

def sd (v : Int) : Nat := (17 + 4 * v).toNat
def gridL (v : Int) (n : Nat) : List Int := (List.range n).map fun (i : Nat) => cellT v (17 + 4 * v) (alg v) ((i % sd v : Nat) : Int) ((i / sd v : Nat) : Int)
theorem gridL_len (v : Int) (n : Nat) : (gridL v n).length = n := by simp [gridL]
theorem gridL_succ (v : Int) (n : Nat) : gridL v (n + 1) = gridL v n ++ [cellT v (17 + 4 * v) (alg v) ((n % sd v : Nat) : Int) ((n / sd v : Nat) : Int)] := by simp [gridL, List.range_succ]
theorem sd_eq {v : Int} (h : 1 ≤ v ∧ v ≤ 40) : ((sd v : Nat) : Int) = 17 + 4 * v := by unfold sd; omega
theorem sd_bd {v : Int} (h : 1 ≤ v ∧ v ≤ 40) : 21 ≤ sd v ∧ sd v ≤ 177 := by unfold sd; omega

theorem cells_l1 {v : Int} (h : 1 ≤ v ∧ v ≤ 40) (y : Nat) (hy : y < sd v) : ∀ (d k x : Nat), x + d = sd v → 80 ≤ k →
    qrlayout_Cells.l1 (k + d + 1) (gridL v (y * sd v + x)) (y : Int) (17 + 4 * v) (y : Int) (17 + 4 * v) (x : Int) v (17 + 4 * v) (alg v) =
      qrlayout_Cells.l0 k (gridL v ((y + 1) * sd v)) (17 + 4 * v) ((y + 1 : Nat) : Int) v (17 + 4 * v) (alg v)
  | 0, k, x, hx, hk => by
    have hs := sd_eq h; have hb := sd_bd h
    rw [qrlayout_Cells.l1, if_neg (by omega), w64 (n := (y : Int) + 1) (by omega), show y * sd v + x = (y + 1) * sd v by rw [Nat.add_mul]; omega]
    rfl
  | d + 1, k, x, hx, hk => by
    have hs := sd_eq h; have hb := sd_bd h
    have ih := cells_l1 h y hy d k (x + 1) (by omega) hk
    have hyx : y * sd v + x < 177 * 178 := by
      have : y * sd v ≤ 177 * 177 := Nat.mul_le_mul (by omega) (by omega)
      omega
    rw [show k + (d + 1) + 1 = (k + d + 1) + 1 by omega, qrlayout_Cells.l1, if_pos (by omega), cell_eq v (17 + 4 * v) (alg v) (x : Int) (y : Int) (bd_of h (by omega) (by omega)) (k + d + 1) (by omega), Option.bind_some, gridL_len, if_pos (by omega), w64 (n := (x : Int) + 1) (by omega),
      show ((x : Int) + 1) = ((x + 1 : Nat) : Int) by omega, ← ih, ← Nat.add_assoc, gridL_succ]
    have e1 : (y * sd v + x) % sd v = x := by rw [Nat.mul_comm, Nat.mul_add_mod]; exact Nat.mod_eq_of_lt (by omega)
    have e2 : (y * sd v + x) / sd v = y := by rw [Nat.mul_comm, Nat.mul_add_div (by omega), Nat.div_eq_of_lt (by omega), Nat.add_zero]
    rw [e1, e2]
theorem cells_l0 {v : Int} (h : 1 ≤ v ∧ v ≤ 40) : ∀ (d k y : Nat), y + d = sd v → 80 ≤ k →
    qrlayout_Cells.l0 (k + d * (sd v + 2) + 1) (gridL v (y * sd v)) (17 + 4 * v) (y : Int) v (17 + 4 * v) (alg v) = some (gridL v (sd v * sd v), 0)
  | 0, k, y, hy, hk => by
    have hs := sd_eq h
    rw [qrlayout_Cells.l0, if_neg (by omega), show y = sd v by omega]
  | d + 1, k, y, hy, hk => by
    have hs := sd_eq h; have hb := sd_bd h
    have ih := cells_l0 h d k (y + 1) (by omega) hk
    have e : k + (d + 1) * (sd v + 2) + 1 = ((k + d * (sd v + 2) + 1) + sd v + 1) + 1 := by
      rw [Nat.add_mul]; omega
    have h1 := cells_l1 h y (by omega) (sd v) (k + d * (sd v + 2) + 1) 0 (by omega) (by omega)
    simp only [Nat.add_zero] at h1
    rw [show ((0 : Nat) : Int) = 0 from rfl] at h1
    rw [e, qrlayout_Cells.l0, if_pos (by omega), h1, ih]
theorem cells_yes {v : Int} (h : 1 ≤ v ∧ v ≤ 40) (k : Nat) (hk : 40000 ≤ k) : qrlayout_Cells.f k v = some (gridL v (sd v * sd v), 0) := by
  have hs := sd_eq h; have hb := sd_bd h
  have hm : sd v * (sd v + 2) ≤ 177 * 179 := Nat.mul_le_mul (by omega) (by omega)
  have := cells_l0 h (sd v) (k - sd v * (sd v + 2) - 1) 0 (by omega) (by omega)
  rw [show k - sd v * (sd v + 2) - 1 + sd v * (sd v + 2) + 1 = k by omega, Nat.zero_mul] at this
  unfold qrlayout_Cells.f
  rw [frame_yes h, Option.bind_some]
  exact this
theorem refcells_l0 {v : Int} (h : 1 ≤ v ∧ v ≤ 40) : ∀ (d k i : Nat), i + d = sd v * sd v → 80 ≤ k →
    barscanref20_Cells.l0 (k + d + 1) (17 + 4 * v) (alg v) (gridL v i ++ List.replicate d 0) (i : Int) = some (gridL v (sd v * sd v), 0)
  | 0, k, i, hi, hk => by
    have hs := sd_eq h; have hb := sd_bd h
    have hm : sd v * sd v ≤ 177 * 177 := Nat.mul_le_mul (by omega) (by omega)
    have e : (17 + 4 * v) * (17 + 4 * v) = ((sd v * sd v : Nat) : Int) := by rw [Int.natCast_mul, hs]
    rw [barscanref20_Cells.l0, e, w64 (by omega), if_neg (by omega), List.replicate_zero, List.append_nil, show i = sd v * sd v by omega]
  | d + 1, k, i, hi, hk => by
    have hs := sd_eq h; have hb := sd_bd h
    have hm : sd v * sd v ≤ 177 * 177 := Nat.mul_le_mul (by omega) (by omega)
    have e : (17 + 4 * v) * (17 + 4 * v) = ((sd v * sd v : Nat) : Int) := by rw [Int.natCast_mul, hs]
    have ih := refcells_l0 h d k (i + 1) (by omega) hk
    have t1 : Int.tmod (i : Int) (17 + 4 * v) = ((i % sd v : Nat) : Int) := by rw [← hs, Int.tmod_eq_emod_of_nonneg (by omega)]; rfl
    have t2 : Int.tdiv (i : Int) (17 + 4 * v) = ((i / sd v : Nat) : Int) := by rw [← hs, Int.tdiv_eq_ediv_of_nonneg (by omega)]; rfl
    have b1 : i % sd v < sd v := Nat.mod_lt _ (by omega)
    have b2 : i / sd v < sd v := Nat.div_lt_of_lt_mul (by omega)
    have gs := gridL_succ v i
    obtain ⟨q, hq⟩ : ∃ q, i / sd v = q := ⟨_, rfl⟩
    obtain ⟨r, hr⟩ : ∃ r, i % sd v = r := ⟨_, rfl⟩
    rw [hq] at t2 b2 gs
    rw [hr] at t1 b1 gs
    rw [show k + (d + 1) + 1 = (k + d + 1) + 1 by omega, barscanref20_Cells.l0, e, w64 (n := ((sd v * sd v : Nat) : Int)) (by omega), if_pos (by omega), if_neg (by omega), t1, t2, w64 (n := (q : Int)) (by omega),
      purpose_eq v (17 + 4 * v) (alg v) _ _ (bd_of h (by omega) (by omega)) rfl (k + d + 1) (by omega), Option.bind_some, if_pos (by omega), List.length_append, gridL_len, List.length_replicate, if_pos (by omega), w64 (n := (i : Int) + 1) (by omega),
      show ((i : Int) + 1) = ((i + 1 : Nat) : Int) by omega, ← ih, gs]
    congr 1
    rw [Int.toNat_natCast, List.set_append_right _ _ (by rw [gridL_len]; omega), gridL_len, Nat.sub_self, List.replicate_succ, List.set_cons_zero, List.append_assoc]
    rfl
theorem refcells_yes {v : Int} (h : 1 ≤ v ∧ v ≤ 40) (k : Nat) (hk : 40000 ≤ k) : barscanref20_Cells.f k v = some (gridL v (sd v * sd v), 0) := by
  have hs := sd_eq h; have hb := sd_bd h
  have hm : sd v * sd v ≤ 177 * 177 := Nat.mul_le_mul (by omega) (by omega)
  have e : (17 + 4 * v) * (17 + 4 * v) = ((sd v * sd v : Nat) : Int) := by rw [Int.natCast_mul, hs]
  have := refcells_l0 h (sd v * sd v) (k - sd v * sd v - 1) 0 (by omega) (by omega)
  rw [show k - sd v * sd v - 1 + sd v * sd v + 1 = k by omega] at this
  unfold barscanref20_Cells.f
  rw [size_yes h, Option.bind_some, if_pos rfl, refAligns h k (by omega), Option.bind_some]
  simp only [e]
  rw [w64 (n := ((sd v * sd v : Nat) : Int)) (by omega), if_pos (by omega), Int.toNat_natCast, if_pos (by omega)]
  exact this
end Go.Proofs.Ytbbnagjfjgkgjaa.Pure
