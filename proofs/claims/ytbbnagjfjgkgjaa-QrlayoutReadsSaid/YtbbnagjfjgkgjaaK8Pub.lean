/- Blank and its reference: the same matrix. -/
import Derived.Test.YtbbnagjfjgkgjaaK8Lb0
import Derived.Test.YtbbnagjfjgkgjaaK8Lx5
import Derived.Test.YtbbnagjfjgkgjaaK8Puc
namespace Go.Proofs.Ytbbnagjfjgkgjaa.Pure
open Go.RowKit Go.Proofs.Ytbbnagjfjgkgjaa.L Go.Proofs.YtbbnagjfjgkgjaaW.PrintWords Go.Proofs.YtbbnagjfjgkgjaaW.PrintLast Go.Proofs.YtbbnagjfjgkgjaaW.PrintMore
set_option linter.unusedVariables false
set_option linter.unusedSimpArgs false

theorem farT_ge (x y a b : Int) : x - a ≤ farT x y a b ∧ a - x ≤ farT x y a b ∧ y - b ≤ farT x y a b ∧ b - y ≤ farT x y a b := by unfold farT mx; repeat' split <;> omega
theorem farT_le {x y a b n : Int} (h1 : x - a ≤ n) (h2 : a - x ≤ n) (h3 : y - b ≤ n) (h4 : b - y ≤ n) : farT x y a b ≤ n := by unfold farT mx; repeat' split <;> omega
theorem rfar_eq {x y a b : Int} (hx : -1000 ≤ x ∧ x ≤ 1000) (hy : -1000 ≤ y ∧ y ≤ 1000) (ha : -1000 ≤ a ∧ a ≤ 1000) (hb : -1000 ≤ b ∧ b ≤ 1000) : barscanref20_far.f x y a b = some (farT x y a b) := by
  unfold barscanref20_far.f farT
  rw [w64 (n := x - a) (by omega), w64 (n := a - x) (by omega), w64 (n := y - b) (by omega), w64 (n := b - y) (by omega)]
  congr 1
  unfold mx
  repeat' split
  all_goals omega
def fdT (s x y : Int) : Int := mn (mn (farT x y 3 3) (farT x y (s - 4) 3)) (farT x y 3 (s - 4))
def darkT (v s : Int) (l : List Int) (x y : Int) : Bool :=
  if cellT v s l x y = 2 then (if fdT s x y = 2 then false else fdT s x y != 4)
  else if cellT v s l x y = 4 then ((findP s x y l l).elim (-1) (fun p => farT x y p.1 p.2)) != 1
  else if cellT v s l x y = 3 then Int.tmod (x + y) 2 == 0
  else if cellT v s l x y = 7 then true
  else false
theorem dark_eq (v s : Int) (l : List Int) (x y : Int) (B : Bd s x y l) (k : Nat) (hk : 90 ≤ k) : qrlayout_frame_dark.f k v s l x y = some (darkT v s l x y) := by
  have h0 := B.s0; have h1 := B.s1; have h2 := B.x0; have h3 := B.x1; have h4 := B.y0; have h5 := B.y1
  unfold qrlayout_frame_dark.f darkT
  rw [cell_eq v s l x y B k (by omega), align_eq B v k (by omega), far_eq ⟨h2, h3⟩ ⟨h4, h5⟩ (by omega) (by omega), w64 (n := s - 4) (by omega), far_eq ⟨h2, h3⟩ ⟨h4, h5⟩ (a := s - 4) (by omega) (by omega), far_eq ⟨h2, h3⟩ ⟨h4, h5⟩ (b := s - 4) (by omega) (by omega), w64 (n := x + y) (by omega)]
  simp only [Option.bind_some]
  show (if cellT v s l x y = 2 then (if fdT s x y = 2 then some false else some (fdT s x y != 4)) else _) = _
  repeat' split
  all_goals rfl
theorem mn_left {a b : Int} (h : a ≤ b) : mn a b = a := by unfold mn; split <;> omega
theorem mn_right {a b : Int} (h : b ≤ a) : mn a b = b := by unfold mn; split <;> omega
theorem fd_corner1 {s x y : Int} (h0 : 21 ≤ s) (hx : 0 ≤ x ∧ x < 8) (hy : 0 ≤ y ∧ y < 8) : fdT s x y = farT x y 3 3 := by
  have a := farT_le (x := x) (y := y) (a := 3) (b := 3) (n := 4) (by omega) (by omega) (by omega) (by omega)
  have b := farT_ge x y (s - 4) 3
  have c := farT_ge x y 3 (s - 4)
  unfold fdT
  rw [mn_left (a := farT x y 3 3) (by omega), mn_left (by omega)]
theorem fd_corner2 {s x y : Int} (h0 : 21 ≤ s) (hx : s - 8 ≤ x ∧ x < s) (hy : 0 ≤ y ∧ y < 8) : fdT s x y = farT x y (s - 4) 3 := by
  have a := farT_le (x := x) (y := y) (a := s - 4) (b := 3) (n := 4) (by omega) (by omega) (by omega) (by omega)
  have b := farT_ge x y 3 3
  have c := farT_ge x y 3 (s - 4)
  unfold fdT
  rw [mn_right (b := farT x y (s - 4) 3) (by omega), mn_left (by omega)]
theorem fd_corner3 {s x y : Int} (h0 : 21 ≤ s) (hx : 0 ≤ x ∧ x < 8) (hy : s - 8 ≤ y ∧ y < s) : fdT s x y = farT x y 3 (s - 4) := by
  have a := farT_le (x := x) (y := y) (a := 3) (b := s - 4) (n := 4) (by omega) (by omega) (by omega) (by omega)
  have b := farT_ge x y 3 3
  have c := farT_ge x y (s - 4) 3
  unfold fdT
  rw [mn_right (b := farT x y 3 (s - 4))]
  unfold mn; split <;> omega
theorem cell2 {v s : Int} {l : List Int} {x y : Int} (h : cellT v s l x y = 2) : (x < 8 ∧ y < 8) ∨ (x ≥ s - 8 ∧ y < 8) ∨ (x < 8 ∧ y ≥ s - 8) := by
  unfold cellT at h
  split at h
  · assumption
  · repeat' split at h
    all_goals omega
theorem cell4 {v s : Int} {l : List Int} {x y : Int} (h : cellT v s l x y = 4) : (findP s x y l l).isSome = true := by
  unfold cellT at h
  split at h
  · omega
  · split at h
    · assumption
    · repeat' split at h
      all_goals omega
theorem findP_in {s x y : Int} {l : List Int} : ∀ {q : List Int} {p : Int × Int}, findP s x y l q = some p → p.1 ∈ q ∧ p.2 ∈ l := by
  have hr : ∀ {a : Int} {q : List Int} {b : Int}, rowF s x y a q = some b → b ∈ q := by
    intro a q
    induction q with
    | nil => intro b h; simp [rowF] at h
    | cons c q ih =>
      intro b h
      unfold rowF at h
      split at h
      · cases h; exact List.mem_cons_self
      · exact List.mem_cons_of_mem _ (ih h)
  intro q
  induction q with
  | nil => intro p h; simp [findP] at h
  | cons a q ih =>
    intro p h
    unfold findP at h
    cases hf : rowF s x y a l with
    | none => rw [hf] at h; exact ⟨List.mem_cons_of_mem _ (ih h).1, (ih h).2⟩
    | some b => rw [hf] at h; cases h; exact ⟨List.mem_cons_self, hr hf⟩
theorem rdark_eq (v s : Int) (l : List Int) (x y : Int) (B : Bd s x y l) (hv : s = 17 + 4 * v) (hx : 0 ≤ x ∧ x < s) (hy : 0 ≤ y ∧ y < s) (k : Nat) (hk : 90 ≤ k) : barscanref20_dark.f k l s x y = some (darkT v s l x y) := by
  have h0 := B.s0; have h1 := B.s1; have h2 := B.x0; have h3 := B.x1; have h4 := B.y0; have h5 := B.y1
  unfold barscanref20_dark.f darkT
  rw [purpose_eq v s l x y B hv k (by omega), aligned_eq B k (by omega), w64 (n := x + y) (by omega), w64 (n := s - 4) (by omega), w64 (n := s - 8) (by omega),
    rfar_eq ⟨h2, h3⟩ ⟨h4, h5⟩ (a := s - 4) (b := s - 4) (by omega) (by omega), rfar_eq ⟨h2, h3⟩ ⟨h4, h5⟩ (a := s - 4) (b := 3) (by omega) (by omega), rfar_eq ⟨h2, h3⟩ ⟨h4, h5⟩ (a := 3) (b := s - 4) (by omega) (by omega), rfar_eq ⟨h2, h3⟩ ⟨h4, h5⟩ (a := 3) (b := 3) (by omega) (by omega)]
  simp only [Option.bind_some]
  by_cases c2 : cellT v s l x y = 2
  · rw [if_pos c2, if_pos c2]
    rcases cell2 c2 with ⟨e1, e2⟩ | ⟨e1, e2⟩ | ⟨e1, e2⟩
    · rw [if_neg (by omega), if_neg (by omega), fd_corner1 h0 ⟨hx.1, e1⟩ ⟨hy.1, e2⟩]; split <;> rfl
    · rw [if_pos (by omega), if_neg (by omega), fd_corner2 h0 ⟨e1, hx.2⟩ ⟨hy.1, e2⟩]; split <;> rfl
    · rw [if_neg (by omega), if_pos (by omega), fd_corner3 h0 ⟨hx.1, e1⟩ ⟨e2, hy.2⟩]; split <;> rfl
  · rw [if_neg c2, if_neg c2]
    by_cases c4 : cellT v s l x y = 4
    · rw [if_pos c4, if_pos c4]
      obtain ⟨p, hp⟩ := Option.isSome_iff_exists.1 (cell4 c4)
      have hin := findP_in hp
      have ha := B.le _ hin.1
      have hb := B.le _ hin.2
      rw [hp]
      simp only [Option.elim]
      rw [rfar_eq ⟨h2, h3⟩ ⟨h4, h5⟩ (by omega) (by omega)]
      rfl
    · rw [if_neg c4, if_neg c4]
      repeat' split
      all_goals rfl

def gridB (v : Int) (n : Nat) : List Bool := (List.range n).map fun (i : Nat) => darkT v (17 + 4 * v) (alg v) ((i % sd v : Nat) : Int) ((i / sd v : Nat) : Int)
theorem gridB_len (v : Int) (n : Nat) : (gridB v n).length = n := by simp [gridB]
theorem gridB_succ (v : Int) (n : Nat) : gridB v (n + 1) = gridB v n ++ [darkT v (17 + 4 * v) (alg v) ((n % sd v : Nat) : Int) ((n / sd v : Nat) : Int)] := by simp [gridB, List.range_succ]
theorem blank_l1 {v : Int} (h : 1 ≤ v ∧ v ≤ 40) (p q : Int) (y : Nat) (hy : y < sd v) : ∀ (d k x : Nat), x + d = sd v → 90 ≤ k →
    qrlayout_frame_blank.l1 (k + d + 1) (y : Int) (17 + 4 * v) (y : Int) (17 + 4 * v) (x : Int) v (17 + 4 * v) (alg v) p q (gridB v (y * sd v + x)) =
      qrlayout_frame_blank.l0 k (17 + 4 * v) ((y + 1 : Nat) : Int) v (17 + 4 * v) (alg v) p q (gridB v ((y + 1) * sd v))
  | 0, k, x, hx, hk => by
    have hs := sd_eq h; have hb := sd_bd h
    rw [qrlayout_frame_blank.l1, if_neg (by omega), w64 (n := (y : Int) + 1) (by omega), show y * sd v + x = (y + 1) * sd v by rw [Nat.add_mul]; omega]
    rfl
  | d + 1, k, x, hx, hk => by
    have hs := sd_eq h; have hb := sd_bd h
    have ih := blank_l1 h p q y hy d k (x + 1) (by omega) hk
    have hyx : y * sd v + x < 177 * 178 := by
      have : y * sd v ≤ 177 * 177 := Nat.mul_le_mul (by omega) (by omega)
      omega
    rw [show k + (d + 1) + 1 = (k + d + 1) + 1 by omega, qrlayout_frame_blank.l1, if_pos (by omega), dark_eq v (17 + 4 * v) (alg v) (x : Int) (y : Int) (bd_of h (by omega) (by omega)) (k + d + 1) (by omega), Option.bind_some, gridB_len, if_pos (by omega), w64 (n := (x : Int) + 1) (by omega),
      show ((x : Int) + 1) = ((x + 1 : Nat) : Int) by omega, ← ih, ← Nat.add_assoc, gridB_succ]
    have e1 : (y * sd v + x) % sd v = x := by rw [Nat.mul_comm, Nat.mul_add_mod]; exact Nat.mod_eq_of_lt (by omega)
    have e2 : (y * sd v + x) / sd v = y := by rw [Nat.mul_comm, Nat.mul_add_div (by omega), Nat.div_eq_of_lt (by omega), Nat.add_zero]
    rw [e1, e2]
theorem blank_l0 {v : Int} (h : 1 ≤ v ∧ v ≤ 40) (p q : Int) : ∀ (d k y : Nat), y + d = sd v → 90 ≤ k →
    qrlayout_frame_blank.l0 (k + d * (sd v + 2) + 1) (17 + 4 * v) (y : Int) v (17 + 4 * v) (alg v) p q (gridB v (y * sd v)) = some (p, q, gridB v (sd v * sd v))
  | 0, k, y, hy, hk => by
    have hs := sd_eq h
    rw [qrlayout_frame_blank.l0, if_neg (by omega), show y = sd v by omega]
  | d + 1, k, y, hy, hk => by
    have hs := sd_eq h; have hb := sd_bd h
    have ih := blank_l0 h p q d k (y + 1) (by omega) hk
    have e : k + (d + 1) * (sd v + 2) + 1 = ((k + d * (sd v + 2) + 1) + sd v + 1) + 1 := by
      rw [Nat.add_mul]; omega
    have h1 := blank_l1 h p q y (by omega) (sd v) (k + d * (sd v + 2) + 1) 0 (by omega) (by omega)
    simp only [Nat.add_zero] at h1
    rw [show ((0 : Nat) : Int) = 0 from rfl] at h1
    rw [e, qrlayout_frame_blank.l0, if_pos (by omega), h1, ih]
theorem fblank_yes {v : Int} (h : 1 ≤ v ∧ v ≤ 40) (k : Nat) (hk : 40000 ≤ k) : qrlayout_frame_blank.f k v (17 + 4 * v) (alg v) = some (17 + 4 * v, 17 + 4 * v, gridB v (sd v * sd v)) := by
  have hs := sd_eq h; have hb := sd_bd h
  have hm : sd v * (sd v + 2) ≤ 177 * 179 := Nat.mul_le_mul (by omega) (by omega)
  have := blank_l0 h (17 + 4 * v) (17 + 4 * v) (sd v) (k - sd v * (sd v + 2) - 1) 0 (by omega) (by omega)
  rw [show k - sd v * (sd v + 2) - 1 + sd v * (sd v + 2) + 1 = k by omega, Nat.zero_mul] at this
  exact this
theorem refblank_l0 {v : Int} (h : 1 ≤ v ∧ v ≤ 40) (p q : Int) : ∀ (d k i : Nat), i + d = sd v * sd v → 90 ≤ k →
    barscanref20_Blank.l0 (k + d + 1) (17 + 4 * v) (alg v) (i : Int) p q (gridB v i ++ List.replicate d false) = some (p, q, gridB v (sd v * sd v), 0)
  | 0, k, i, hi, hk => by
    have hs := sd_eq h; have hb := sd_bd h
    have hm : sd v * sd v ≤ 177 * 177 := Nat.mul_le_mul (by omega) (by omega)
    have e : (17 + 4 * v) * (17 + 4 * v) = ((sd v * sd v : Nat) : Int) := by rw [Int.natCast_mul, hs]
    rw [barscanref20_Blank.l0, e, w64 (by omega), if_neg (by omega), List.replicate_zero, List.append_nil, show i = sd v * sd v by omega]
  | d + 1, k, i, hi, hk => by
    have hs := sd_eq h; have hb := sd_bd h
    have hm : sd v * sd v ≤ 177 * 177 := Nat.mul_le_mul (by omega) (by omega)
    have e : (17 + 4 * v) * (17 + 4 * v) = ((sd v * sd v : Nat) : Int) := by rw [Int.natCast_mul, hs]
    have ih := refblank_l0 h p q d k (i + 1) (by omega) hk
    have t1 : Int.tmod (i : Int) (17 + 4 * v) = ((i % sd v : Nat) : Int) := by rw [← hs, Int.tmod_eq_emod_of_nonneg (by omega)]; rfl
    have t2 : Int.tdiv (i : Int) (17 + 4 * v) = ((i / sd v : Nat) : Int) := by rw [← hs, Int.tdiv_eq_ediv_of_nonneg (by omega)]; rfl
    have b1 : i % sd v < sd v := Nat.mod_lt _ (by omega)
    have b2 : i / sd v < sd v := Nat.div_lt_of_lt_mul (by omega)
    have gs := gridB_succ v i
    obtain ⟨q', hq⟩ : ∃ q', i / sd v = q' := ⟨_, rfl⟩
    obtain ⟨r, hr⟩ : ∃ r, i % sd v = r := ⟨_, rfl⟩
    rw [hq] at t2 b2 gs
    rw [hr] at t1 b1 gs
    rw [show k + (d + 1) + 1 = (k + d + 1) + 1 by omega, barscanref20_Blank.l0, e, w64 (n := ((sd v * sd v : Nat) : Int)) (by omega), if_pos (by omega), if_neg (by omega), t1, t2, w64 (n := (q' : Int)) (by omega),
      rdark_eq v (17 + 4 * v) (alg v) _ _ (bd_of h (by omega) (by omega)) rfl (by omega) (by omega) (k + d + 1) (by omega), Option.bind_some, if_pos (by omega), List.length_append, gridB_len, List.length_replicate, if_pos (by omega), w64 (n := (i : Int) + 1) (by omega),
      show ((i : Int) + 1) = ((i + 1 : Nat) : Int) by omega, ← ih, gs]
    congr 1
    rw [Int.toNat_natCast, List.set_append_right _ _ (by rw [gridB_len]; omega), gridB_len, Nat.sub_self, List.replicate_succ, List.set_cons_zero, List.append_assoc]
    rfl
theorem refblank_yes {v : Int} (h : 1 ≤ v ∧ v ≤ 40) (k : Nat) (hk : 40000 ≤ k) : barscanref20_Blank.f k v = some (17 + 4 * v, 17 + 4 * v, gridB v (sd v * sd v), 0) := by
  have hs := sd_eq h; have hb := sd_bd h
  have hm : sd v * sd v ≤ 177 * 177 := Nat.mul_le_mul (by omega) (by omega)
  have e : (17 + 4 * v) * (17 + 4 * v) = ((sd v * sd v : Nat) : Int) := by rw [Int.natCast_mul, hs]
  have := refblank_l0 h (17 + 4 * v) (17 + 4 * v) (sd v * sd v) (k - sd v * sd v - 1) 0 (by omega) (by omega)
  rw [show k - sd v * sd v - 1 + sd v * sd v + 1 = k by omega] at this
  unfold barscanref20_Blank.f
  rw [size_yes h, Option.bind_some, if_pos rfl, refAligns h k (by omega), Option.bind_some]
  simp only [e]
  rw [w64 (n := ((sd v * sd v : Nat) : Int)) (by omega), if_pos (by omega), Int.toNat_natCast, if_pos (by omega)]
  exact this
theorem refblank_no {v : Int} (h : ¬ (1 ≤ v ∧ v ≤ 40)) (k : Nat) : barscanref20_Blank.f k v = some (0, 0, [], 14) := by
  unfold barscanref20_Blank.f
  rw [size_no h]
  rfl
end Go.Proofs.Ytbbnagjfjgkgjaa.Pure
