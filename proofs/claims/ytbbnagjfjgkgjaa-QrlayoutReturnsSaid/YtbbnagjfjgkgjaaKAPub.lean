/- Blank and its reference: the same matrix. -/
import Derived.Test.YtbbnagjfjgkgjaaKALb0
import Derived.Test.YtbbnagjfjgkgjaaKALx5
import Derived.Test.YtbbnagjfjgkgjaaKAPsz
namespace Go.Proofs.Ytbbnagjfjgkgjaa.Pure
open Go.RowKit Go.Proofs.Ytbbnagjfjgkgjaa.L Go.Proofs.YtbbnagjfjgkgjaaW.PrintWords Go.Proofs.YtbbnagjfjgkgjaaW.PrintLast Go.Proofs.YtbbnagjfjgkgjaaW.PrintMore
set_option linter.unusedVariables false
set_option linter.unusedSimpArgs false

def fdT (s x y : Int) : Int := mn (mn (farT x y 3 3) (farT x y (s - 4) 3)) (farT x y 3 (s - 4))
def darkT (v s : Int) (l : List Int) (x y : Int) : Bool :=
  if cellT v s l x y = 2 then (if fdT s x y = 2 then false else fdT s x y != 4)
  else if cellT v s l x y = 4 then ((findP s x y l l).elim (-1) (fun p => farT x y p.1 p.2)) != 1
  else if cellT v s l x y = 3 then Int.tmod (x + y) 2 == 0
  else if cellT v s l x y = 7 then true
  else false
theorem dark_eq (v s : Int) (l : List Int) (x y : Int) (B : Bd s x y l) (k : Nat) (hk : 90 ≤ k) : qrlayout_frame_dark.f k v s l x y = some (darkT v s l x y) := by
  have h0 := B.s0; have h1 := B.s1; have h2 := B.x0; have h3 := B.x1; have h4 := B.y0; have h5 := B.y1
  unfold qrlayout_frame_dark.f darkT
  rw [cell_eq v s l x y B k (by omega), align_eq B v k (by omega), far_eq ⟨h2, h3⟩ ⟨h4, h5⟩ (by omega) (by omega), w64 (n := s - 4) (by omega), far_eq ⟨h2, h3⟩ ⟨h4, h5⟩ (a := s - 4) (by omega) (by omega), far_eq ⟨h2, h3⟩ ⟨h4, h5⟩ (b := s - 4) (by omega) (by omega), w64 (n := x + y) (by omega)]
  simp only [Option.bind_some]
  show (if cellT v s l x y = 2 then (if fdT s x y = 2 then some false else some (fdT s x y != 4)) else _) = _
  repeat' split
  all_goals rfl
def gridB (v : Int) (n : Nat) : List Bool := (List.range n).map fun (i : Nat) => darkT v (17 + 4 * v) (alg v) ((i % sd v : Nat) : Int) ((i / sd v : Nat) : Int)
theorem gridB_len (v : Int) (n : Nat) : (gridB v n).length = n := by simp [gridB]
theorem gridB_succ (v : Int) (n : Nat) : gridB v (n + 1) = gridB v n ++ [darkT v (17 + 4 * v) (alg v) ((n % sd v : Nat) : Int) ((n / sd v : Nat) : Int)] := by simp [gridB, List.range_succ]
theorem blank_l1 {v : Int} (h : 1 ≤ v ∧ v ≤ 40) (p q : Int) (y : Nat) (hy : y < sd v) : ∀ (d k x : Nat), x + d = sd v → 90 ≤ k →
    qrlayout_frame_blank.l1 (k + d + 1) (y : Int) (17 + 4 * v) (y : Int) (17 + 4 * v) (x : Int) v (17 + 4 * v) (alg v) p q (gridB v (y * sd v + x)) =
      qrlayout_frame_blank.l0 k (17 + 4 * v) ((y + 1 : Nat) : Int) v (17 + 4 * v) (alg v) p q (gridB v ((y + 1) * sd v))
  | 0, k, x, hx, hk => by
    have hs := sd_eq h; have hb := sd_bd h
    rw [qrlayout_frame_blank.l1, if_neg (by omega), w64 (n := (y : Int) + 1) (by omega), show y * sd v + x = (y + 1) * sd v by rw [Nat.add_mul]; omega]
    rfl
  | d + 1, k, x, hx, hk => by
    have hs := sd_eq h; have hb := sd_bd h
    have ih := blank_l1 h p q y hy d k (x + 1) (by omega) hk
    have hyx : y * sd v + x < 177 * 178 := by
      have : y * sd v ≤ 177 * 177 := Nat.mul_le_mul (by omega) (by omega)
      omega
    rw [show k + (d + 1) + 1 = (k + d + 1) + 1 by omega, qrlayout_frame_blank.l1, if_pos (by omega), dark_eq v (17 + 4 * v) (alg v) (x : Int) (y : Int) (bd_of h (by omega) (by omega)) (k + d + 1) (by omega), Option.bind_some, gridB_len, if_pos (by omega), w64 (n := (x : Int) + 1) (by omega),
      show ((x : Int) + 1) = ((x + 1 : Nat) : Int) by omega, ← ih, ← Nat.add_assoc, gridB_succ]
    have e1 : (y * sd v + x) % sd v = x := by rw [Nat.mul_comm, Nat.mul_add_mod]; exact Nat.mod_eq_of_lt (by omega)
    have e2 : (y * sd v + x) / sd v = y := by rw [Nat.mul_comm, Nat.mul_add_div (by omega), Nat.div_eq_of_lt (by omega), Nat.add_zero]
    rw [e1, e2]
theorem blank_l0 {v : Int} (h : 1 ≤ v ∧ v ≤ 40) (p q : Int) : ∀ (d k y : Nat), y + d = sd v → 90 ≤ k →
    qrlayout_frame_blank.l0 (k + d * (sd v + 2) + 1) (17 + 4 * v) (y : Int) v (17 + 4 * v) (alg v) p q (gridB v (y * sd v)) = some (p, q, gridB v (sd v * sd v))
  | 0, k, y, hy, hk => by
    have hs := sd_eq h
    rw [qrlayout_frame_blank.l0, if_neg (by omega), show y = sd v by omega]
  | d + 1, k, y, hy, hk => by
    have hs := sd_eq h; have hb := sd_bd h
    have ih := blank_l0 h p q d k (y + 1) (by omega) hk
    have e : k + (d + 1) * (sd v + 2) + 1 = ((k + d * (sd v + 2) + 1) + sd v + 1) + 1 := by
      rw [Nat.add_mul]; omega
    have h1 := blank_l1 h p q y (by omega) (sd v) (k + d * (sd v + 2) + 1) 0 (by omega) (by omega)
    simp only [Nat.add_zero] at h1
    rw [show ((0 : Nat) : Int) = 0 from rfl] at h1
    rw [e, qrlayout_frame_blank.l0, if_pos (by omega), h1, ih]
end Go.Proofs.Ytbbnagjfjgkgjaa.Pure
