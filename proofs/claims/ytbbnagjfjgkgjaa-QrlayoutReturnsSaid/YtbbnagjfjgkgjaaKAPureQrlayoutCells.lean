/- Cells and Path agree with the reference, for any version: the plain law. -/
import Derived.Test.YtbbnagjfjgkgjaaKALc1
import Derived.Test.YtbbnagjfjgkgjaaKAPsz
namespace Go.Proofs.Ytbbnagjfjgkgjaa.Pure
open Go.RowKit Go.Proofs.Ytbbnagjfjgkgjaa.L Go.Proofs.YtbbnagjfjgkgjaaW.PrintWords Go.Proofs.YtbbnagjfjgkgjaaW.PrintLast Go.Proofs.YtbbnagjfjgkgjaaW.PrintMore
set_option linter.unusedVariables false
set_option linter.unusedSimpArgs false

def yv (s : Int) (up : Bool) (i : Nat) : Int := if up = true then s - 1 - (i : Int) else (i : Int)
def colR (s r : Int) (up : Bool) (n : Nat) : List S45 := (List.range n).flatMap fun (i : Nat) => [⟨r, yv s up i⟩, ⟨r - 1, yv s up i⟩]
theorem colR_succ (s r : Int) (up : Bool) (n : Nat) : colR s r up (n + 1) = colR s r up n ++ [⟨r, yv s up n⟩, ⟨r - 1, yv s up n⟩] := by simp [colR, List.range_succ]
theorem colR_len (s r : Int) (up : Bool) (n : Nat) : (colR s r up n).length = 2 * n := by
  induction n with
  | zero => rfl
  | succ n ih => rw [colR_succ, List.length_append, ih]; simp; omega
theorem colL_eq {s r : Int} (up : Bool) (h0 : 21 ≤ s) (h1 : s ≤ 177) (hr : 1 ≤ r) (hr1 : r ≤ 176) : ∀ n : Nat, n ≤ 177 → colL s r up (2 * n) = colR s r up n
  | 0, _ => rfl
  | n + 1, h => by
    rw [show 2 * (n + 1) = 2 * n + 1 + 1 by omega, colL_succ, colL_succ, colL_eq up h0 h1 hr hr1 n (by omega), colR_succ, List.append_assoc]
    congr 1
    rw [pcol_in s r up (2 * n) (by omega) (by omega) (by omega), pcol_in s r up (2 * n + 1) (by omega) (by omega) (by omega), w64 (n := s - 1) (by omega)]
    have e1 : r - ((2 * n : Nat) : Int) % 2 = r := by omega
    have e2 : r - ((2 * n + 1 : Nat) : Int) % 2 = r - 1 := by omega
    have e3 : ((2 * n : Nat) : Int) / 2 = (n : Int) := by omega
    have e4 : ((2 * n + 1 : Nat) : Int) / 2 = (n : Int) := by omega
    rw [e1, e2, e3, e4, w64 (n := s - 1 - (n : Int)) (by omega)]
    rfl
def dataQ (v : Int) (ps : List S45) : List S45 := ps.filter fun p => cellT v (17 + 4 * v) (alg v) p.f0 p.f1 == 1
theorem dataQ_app (v : Int) (a b : List S45) : dataQ v (a ++ b) = dataQ v a ++ dataQ v b := List.filter_append _ _
theorem dataQ_len (v : Int) (a : List S45) : (dataQ v a).length ≤ a.length := List.length_filter_le _ _

theorem grid_at {v : Int} (h : 1 ≤ v ∧ v ≤ 40) {x y : Int} (hx : 0 ≤ x ∧ x < 17 + 4 * v) (hy : 0 ≤ y ∧ y < 17 + 4 * v) :
    0 ≤ y * (17 + 4 * v) + x ∧ y * (17 + 4 * v) + x < ((sd v * sd v : Nat) : Int) ∧ y * (17 + 4 * v) ≤ 40000 ∧ rd (gridL v (sd v * sd v)) (y * (17 + 4 * v) + x) = cellT v (17 + 4 * v) (alg v) x y := by
  have hs := sd_eq h; have hb := sd_bd h
  obtain ⟨x, rfl⟩ := Int.eq_ofNat_of_zero_le hx.1
  obtain ⟨y, rfl⟩ := Int.eq_ofNat_of_zero_le hy.1
  have hx' : x < sd v := by omega
  have hy' : y < sd v := by omega
  have e : (y : Int) * (17 + 4 * v) + (x : Int) = ((y * sd v + x : Nat) : Int) := by rw [← hs]; simp
  have hlt : y * sd v + x < sd v * sd v := by
    have : (y + 1) * sd v ≤ sd v * sd v := Nat.mul_le_mul (by omega) (Nat.le_refl _)
    rw [Nat.add_mul] at this; omega
  have hm : sd v * sd v ≤ 177 * 177 := Nat.mul_le_mul (by omega) (by omega)
  have e' : (y : Int) * (17 + 4 * v) = ((y * sd v : Nat) : Int) := by rw [← hs]; simp
  refine ⟨by rw [e]; omega, by rw [e]; omega, by rw [e']; omega, ?_⟩
  rw [e, rd_nat _ _ (by rw [gridL_len]; exact hlt)]
  have e1 : (y * sd v + x) % sd v = x := by rw [Nat.mul_comm, Nat.mul_add_mod]; exact Nat.mod_eq_of_lt hx'
  have e2 : (y * sd v + x) / sd v = y := by rw [Nat.mul_comm, Nat.mul_add_div (by omega), Nat.div_eq_of_lt hx', Nat.add_zero]
  simp only [gridL, List.getElem_map, List.getElem_range, e1, e2]

theorem refp_l2 {v : Int} (h : 1 ≤ v ∧ v ≤ 40) (acc : List S45) (hl : acc.length ≤ 200000) (up : Bool) (r : Int) (i y x : Int) (k : Nat) (hx : 0 ≤ x ∧ x < 17 + 4 * v) (hy : 0 ≤ y ∧ y < 17 + 4 * v) (hr : r - 1 ≤ x) (hr1 : 0 ≤ r ∧ r ≤ 200) :
    barscanref20_Path.l2 (k + 1) (gridL v (sd v * sd v)) (17 + 4 * v) acc up r i y x = barscanref20_Path.l2 k (gridL v (sd v * sd v)) (17 + 4 * v) (acc ++ dataQ v [⟨x, y⟩]) up r i y (x - 1) := by
  obtain ⟨g0, g1, g2, g3⟩ := grid_at h hx hy
  have hs := sd_eq h; have hb := sd_bd h
  have hy0 : 0 ≤ y * (17 + 4 * v) := Int.mul_nonneg hy.1 (by omega)
  rw [barscanref20_Path.l2, w64 (n := r - 1) (by omega), if_pos (by omega), w64 (n := y * (17 + 4 * v)) (by omega), w64 (n := y * (17 + 4 * v) + x) (by omega), if_pos (by omega), gridL_len, if_pos (by omega), g3, w64 (n := x - 1) (by omega)]
  by_cases hc : cellT v (17 + 4 * v) (alg v) x y = 1
  · rw [if_pos hc, if_pos (by omega)]; simp [dataQ, hc]
  · rw [if_neg hc]; simp [dataQ, hc]
theorem refp_row {v : Int} (h : 1 ≤ v ∧ v ≤ 40) (acc : List S45) (hl : acc.length ≤ 100000) (up : Bool) (r : Int) (i : Nat) (y : Int) (k : Nat) (hr : 1 ≤ r ∧ r < 17 + 4 * v) (hy : 0 ≤ y ∧ y < 17 + 4 * v) (hi : i ≤ 200) :
    barscanref20_Path.l2 (k + 3) (gridL v (sd v * sd v)) (17 + 4 * v) acc up r (i : Int) y r = barscanref20_Path.l1 k (gridL v (sd v * sd v)) (17 + 4 * v) (acc ++ dataQ v [⟨r, y⟩, ⟨r - 1, y⟩]) up r ((i + 1 : Nat) : Int) := by
  rw [show k + 3 = (k + 2) + 1 by omega, refp_l2 h acc (by omega) up r i y r (k + 2) (by omega) hy (by omega) (by omega), show k + 2 = (k + 1) + 1 by omega,
    refp_l2 h _ (by have := dataQ_len v [⟨r, y⟩]; simp only [List.length_append, List.length_cons, List.length_nil] at this ⊢; omega) up r i y (r - 1) (k + 1) (by omega) hy (by omega) (by omega), barscanref20_Path.l2, w64 (n := r - 1) (by omega), if_neg (by omega), w64 (n := (i : Int) + 1) (by omega), List.append_assoc, ← dataQ_app]
  try rfl
theorem refp_l1 {v : Int} (h : 1 ≤ v ∧ v ≤ 40) (acc : List S45) (hl : acc.length ≤ 90000) (up : Bool) (r : Int) (hr : 1 ≤ r ∧ r < 17 + 4 * v) : ∀ (d k i : Nat), i + d = sd v →
    barscanref20_Path.l1 (k + 5 * d + 1) (gridL v (sd v * sd v)) (17 + 4 * v) (acc ++ dataQ v (colR (17 + 4 * v) r up i)) up r (i : Int) =
      barscanref20_Path.l0 k (gridL v (sd v * sd v)) (17 + 4 * v) (acc ++ dataQ v (colR (17 + 4 * v) r up (sd v))) (!up) (r - 2)
  | 0, k, i, hi => by
    have hs := sd_eq h; have hb := sd_bd h
    rw [barscanref20_Path.l1, if_neg (by omega), w64 (n := r - 2) (by omega), show i = sd v by omega]
    try rfl
  | d + 1, k, i, hi => by
    have hs := sd_eq h; have hb := sd_bd h
    have ih := refp_l1 h acc hl up r hr d k (i + 1) (by omega)
    have hyv : 0 ≤ yv (17 + 4 * v) up i ∧ yv (17 + 4 * v) up i < 17 + 4 * v := by unfold yv; split <;> omega
    have hlen : (acc ++ dataQ v (colR (17 + 4 * v) r up i)).length ≤ 100000 := by
      have h1 := dataQ_len v (colR (17 + 4 * v) r up i)
      rw [colR_len] at h1
      rw [List.length_append]; omega
    have key := refp_row h _ hlen up r i (yv (17 + 4 * v) up i) (k + 5 * d + 1) hr hyv (by omega)
    rw [List.append_assoc, ← dataQ_app, ← colR_succ, ih] at key
    rw [← key, show k + 5 * (d + 1) + 1 = (k + 5 * d + 5) + 1 by omega, barscanref20_Path.l1, if_pos (by omega), show k + 5 * d + 5 = (k + 5 * d + 4) + 1 by omega]
    cases up
    · simp only [Bool.false_eq_true, if_false, barscanref20_Path.j3]
      rfl
    · rw [if_pos rfl, barscanref20_Path.j3, w64 (n := 17 + 4 * v - 1) (by omega), w64 (n := 17 + 4 * v - 1 - (i : Int)) (by omega)]
      rfl
theorem refp_l0 {v : Int} (h : 1 ≤ v ∧ v ≤ 40) : ∀ (n k : Nat) (r : Int) (up : Bool) (acc : List S45), r.toNat ≤ n → -2 ≤ r → r < 17 + 4 * v → acc.length + 2 * sd v * n ≤ 80000 →
    barscanref20_Path.l0 (k + n * (5 * sd v + 3) + 1) (gridL v (sd v * sd v)) (17 + 4 * v) acc up r = some (acc ++ dataQ v (allL (17 + 4 * v) n r up), 0)
  | 0, k, r, up, acc, hn, hlo, hr, hl => by
    rw [barscanref20_Path.l0, if_neg (by omega)]
    simp [allL, dataQ]
  | n + 1, k, r, up, acc, hn, hlo, hr, hl => by
    have hs := sd_eq h; have hb := sd_bd h
    rw [show 2 * sd v * (n + 1) = 2 * sd v * n + 2 * sd v by rw [Nat.mul_add, Nat.mul_one]] at hl
    rw [show k + (n + 1) * (5 * sd v + 3) + 1 = ((k + n * (5 * sd v + 3) + 1) + 5 * sd v + 1 + 1) + 1 by rw [Nat.add_mul]; omega]
    by_cases h0 : r > 0
    · obtain ⟨q, hq⟩ : ∃ q, (if r = 6 then 5 else r) = q := ⟨_, rfl⟩
      have hq1 : 1 ≤ q ∧ q ≤ r := by rw [← hq]; split <;> omega
      have e2 : (wrap64 (2 * (17 + 4 * v))).toNat = 2 * sd v := by rw [w64 (by omega)]; omega
      have key := refp_l1 h acc (by omega) up q (by omega) (sd v) (k + n * (5 * sd v + 3) + 1) 0 (by omega)
      have key2 := refp_l0 h n k (q - 2) (!up) (acc ++ dataQ v (colR (17 + 4 * v) q up (sd v))) (by omega) (by omega) (by omega) (by
        have h1 := dataQ_len v (colR (17 + 4 * v) q up (sd v))
        rw [colR_len] at h1
        rw [List.length_append]; omega)
      rw [key2] at key
      have hc0 : colR (17 + 4 * v) q up 0 = [] := rfl
      rw [hc0] at key
      simp only [dataQ, List.filter_nil, List.append_nil] at key
      have hj : barscanref20_Path.l0 ((k + n * (5 * sd v + 3) + 1) + 5 * sd v + 1 + 1 + 1) (gridL v (sd v * sd v)) (17 + 4 * v) acc up r = barscanref20_Path.l1 ((k + n * (5 * sd v + 3) + 1) + 5 * sd v + 1) (gridL v (sd v * sd v)) (17 + 4 * v) acc up q ((0 : Nat) : Int) := by
        rw [barscanref20_Path.l0, if_pos h0]
        by_cases h6 : r = 6
        · rw [if_pos h6, barscanref20_Path.j1]
          rw [if_pos h6] at hq
          subst hq
          rfl
        · rw [if_neg h6, barscanref20_Path.j1]
          rw [if_neg h6] at hq
          subst hq
          rfl
      rw [hj, key, allL, if_pos h0, hq, e2, w64 (n := q - 2) (by omega), colL_eq up (by omega) (by omega) hq1.1 (by omega) (sd v) (by omega)]
      simp only [dataQ, List.filter_append, List.append_assoc]
    · rw [barscanref20_Path.l0, if_neg h0, allL, if_neg h0]
      simp [dataQ]

theorem yv_range {s : Int} {up : Bool} {i : Nat} (h0 : 0 ≤ s) (hi : (i : Int) < s) : 0 ≤ yv s up i ∧ yv s up i < s := by unfold yv; split <;> omega
theorem allL_in {v : Int} (h : 1 ≤ v ∧ v ≤ 40) : ∀ (n : Nat) (r : Int) (up : Bool), r < 17 + 4 * v → ∀ p ∈ allL (17 + 4 * v) n r up, (0 ≤ p.f0 ∧ p.f0 < 17 + 4 * v) ∧ (0 ≤ p.f1 ∧ p.f1 < 17 + 4 * v)
  | 0, r, up, hr, p, hp => by simp [allL] at hp
  | n + 1, r, up, hr, p, hp => by
    have hs := sd_eq h; have hb := sd_bd h
    rw [allL] at hp
    by_cases h0 : r > 0
    · rw [if_pos h0] at hp
      obtain ⟨q, hq⟩ : ∃ q, (if r = 6 then 5 else r) = q := ⟨_, rfl⟩
      have hq1 : 1 ≤ q ∧ q ≤ r := by rw [← hq]; split <;> omega
      have e2 : (wrap64 (2 * (17 + 4 * v))).toNat = 2 * sd v := by rw [w64 (by omega)]; omega
      rw [hq, e2, colL_eq up (by omega) (by omega) hq1.1 (by omega) (sd v) (by omega), w64 (n := q - 2) (by omega), List.mem_append] at hp
      rcases hp with hp | hp
      · obtain ⟨i, hi, hp⟩ := List.mem_flatMap.1 hp
        have hi := List.mem_range.1 hi
        have hy := yv_range (s := 17 + 4 * v) (up := up) (i := i) (by omega) (by omega)
        simp only [List.mem_cons, List.not_mem_nil, or_false] at hp
        rcases hp with rfl | rfl
        · exact ⟨⟨by show 0 ≤ q; omega, by show q < _; omega⟩, hy⟩
        · exact ⟨⟨by show 0 ≤ q - 1; omega, by show q - 1 < _; omega⟩, hy⟩
      · exact allL_in h n (q - 2) (!up) (by omega) p hp
    · rw [if_neg h0] at hp; simp at hp
theorem allL_len {v : Int} (h : 1 ≤ v ∧ v ≤ 40) : ∀ (n : Nat) (r : Int) (up : Bool), (allL (17 + 4 * v) n r up).length ≤ n * (2 * sd v)
  | 0, r, up => by simp [allL]
  | n + 1, r, up => by
    have hs := sd_eq h; have hb := sd_bd h
    have ih := allL_len h n
    rw [allL, Nat.add_mul]
    have e2 : (wrap64 (2 * (17 + 4 * v))).toNat = 2 * sd v := by rw [w64 (by omega)]; omega
    split
    · rw [List.length_append, e2]
      have h1 := ih (wrap64 ((if r = 6 then 5 else r) - 2)) (!up)
      have h2 : (colL (17 + 4 * v) (if r = 6 then 5 else r) up (2 * sd v)).length = 2 * sd v := by simp [colL]
      omega
    · simp
def ptsT (v : Int) : List S45 := dataQ v (allL (17 + 4 * v) (17 + 4 * v - 1).toNat (17 + 4 * v - 1) true)
theorem path_yes {v : Int} (h : 1 ≤ v ∧ v ≤ 40) (k : Nat) (hk : 80 ≤ k) : qrlayout_Path.f k v = some (ptsT v, 0) := by
  have hs := sd_eq h; have hb := sd_bd h
  have hin := allL_in h (17 + 4 * v - 1).toNat (17 + 4 * v - 1) true (by omega)
  have hc : ∀ p ∈ allL (17 + 4 * v) (17 + 4 * v - 1).toNat (17 + 4 * v - 1) true, qrlayout_frame_cell.f k v (17 + 4 * v) (alg v) p.f0 p.f1 = some (cellT v (17 + 4 * v) (alg v) p.f0 p.f1) := fun p hp => by
    obtain ⟨hx, hy⟩ := hin p hp
    exact cell_eq v _ _ _ _ (bd_of h (by omega) (by omega)) k hk
  have hd : dataP k v (17 + 4 * v) (alg v) (allL (17 + 4 * v) (17 + 4 * v - 1).toNat (17 + 4 * v - 1) true) = ptsT v := by
    unfold dataP ptsT dataQ
    refine List.filter_congr fun p hp => ?_
    rw [hc p hp]
    by_cases h1 : cellT v (17 + 4 * v) (alg v) p.f0 p.f1 = 1 <;> simp [h1]
  have hlen : (ptsT v).length ≤ 1000000 := by
    have h1 := dataQ_len v (allL (17 + 4 * v) (17 + 4 * v - 1).toNat (17 + 4 * v - 1) true)
    have h2 := allL_len h (17 + 4 * v - 1).toNat (17 + 4 * v - 1) true
    have h3 : (17 + 4 * v - 1).toNat * (2 * sd v) ≤ 177 * 400 := Nat.mul_le_mul (by omega) (by omega)
    unfold ptsT; omega
  unfold qrlayout_Path.f
  rw [frame_yes h, Option.bind_some, if_pos rfl]
  show (pathO k v (17 + 4 * v) (alg v)).bind _ = _
  unfold pathO
  rw [w64 (n := 17 + 4 * v - 1) (by omega), hd, if_pos ⟨by omega, List.all_eq_true.2 fun p hp => by rw [hc p hp]; rfl, hlen⟩]
  rfl
theorem refpath_yes {v : Int} (h : 1 ≤ v ∧ v ≤ 40) (k : Nat) (hk : 300000 ≤ k) : barscanref20_Path.f k v = some (ptsT v, 0) := by
  have hs := sd_eq h; have hb := sd_bd h
  have hm : (17 + 4 * v - 1).toNat * (5 * sd v + 3) ≤ 177 * 900 := Nat.mul_le_mul (by omega) (by omega)
  have hm2 : 2 * sd v * (17 + 4 * v - 1).toNat ≤ 400 * 177 := Nat.mul_le_mul (by omega) (by omega)
  have := refp_l0 h (17 + 4 * v - 1).toNat (k - (17 + 4 * v - 1).toNat * (5 * sd v + 3) - 1) (17 + 4 * v - 1) true [] (by omega) (by omega) (by omega) (by rw [List.length_nil]; omega)
  rw [show k - (17 + 4 * v - 1).toNat * (5 * sd v + 3) - 1 + (17 + 4 * v - 1).toNat * (5 * sd v + 3) + 1 = k by omega] at this
  unfold barscanref20_Path.f
  rw [refcells_yes h k (by omega), Option.bind_some, if_pos rfl, w64 (n := 4 * v) (by omega), w64 (n := 17 + 4 * v) (by omega), w64 (n := 17 + 4 * v - 1) (by omega), this]
  rfl
end Go.Proofs.Ytbbnagjfjgkgjaa.Pure
