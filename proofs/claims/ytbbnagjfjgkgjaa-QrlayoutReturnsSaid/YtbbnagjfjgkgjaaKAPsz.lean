/- What qrlayout and its reference say of single modules: the same. -/
import Derived.Test.YtbbnagjfjgkgjaaKALx15
import Derived.Test.YtbbnagjfjgkgjaaKALx3
import Derived.Test.YtbbnagjfjgkgjaaKALc0
import Derived.Test.YtbbnagjfjgkgjaaKALx16
import Derived.Test.YtbbnagjfjgkgjaaKALx5
namespace Go.Proofs.Ytbbnagjfjgkgjaa.Pure
open Go.RowKit Go.Proofs.Ytbbnagjfjgkgjaa.L Go.Proofs.YtbbnagjfjgkgjaaW.PrintWords Go.Proofs.YtbbnagjfjgkgjaaW.PrintLast Go.Proofs.YtbbnagjfjgkgjaaW.PrintMore
set_option linter.unusedVariables false
set_option linter.unusedSimpArgs false

theorem w64 {n : Int} (h : -9223372036854775808 ≤ n ∧ n ≤ 9223372036854775807) : wrap64 n = n := by unfold wrap64; omega
def farT (x y a b : Int) : Int := mx (mx (mx (x - a) (a - x)) (y - b)) (b - y)
def hit (s x y a b : Int) : Bool := decide (farT x y a b ≤ 2 ∧ ¬ (mn a b = 6 ∧ (mx a b = 6 ∨ mx a b = s - 7)))
def rowF (s x y a : Int) : List Int → Option Int
  | [] => none
  | b :: bs => if hit s x y a b = true then some b else rowF s x y a bs
def findP (s x y : Int) (l : List Int) : List Int → Option (Int × Int)
  | [] => none
  | a :: ar => (rowF s x y a l).elim (findP s x y l ar) (fun b => some (a, b))
structure Bd (s x y : Int) (l : List Int) : Prop where
  s0 : 21 ≤ s
  s1 : s ≤ 177
  x0 : -1000 ≤ x
  x1 : x ≤ 1000
  y0 : -1000 ≤ y
  y1 : y ≤ 1000
  le : ∀ e ∈ l, 6 ≤ e ∧ e ≤ 177
  ll : l.length ≤ 7

theorem far_eq {x y a b : Int} (hx : -1000 ≤ x ∧ x ≤ 1000) (hy : -1000 ≤ y ∧ y ≤ 1000) (ha : -1000 ≤ a ∧ a ≤ 1000) (hb : -1000 ≤ b ∧ b ≤ 1000) : qrlayout_far.f x y a b = some (farT x y a b) := by
  unfold qrlayout_far.f farT
  rw [w64 (n := x - a) (by omega), w64 (n := a - x) (by omega), w64 (n := y - b) (by omega), w64 (n := b - y) (by omega)]

theorem rd_nat (l : List Int) (j : Nat) (h : j < l.length) : rd l (j : Int) = l[j] := by
  simp [rd, List.getD_eq_getElem?_getD, List.getElem?_eq_getElem h]

theorem al_l1 {s x y : Int} {l : List Int} (B : Bd s x y l) (vv a : Int) (ha : 6 ≤ a ∧ a ≤ 177) (i : Int) : ∀ (d k j : Nat), j + d = l.length →
    qrlayout_frame_align.l1 (k + d + 1) x y a l (l.length : Int) i l (l.length : Int) (j : Int) vv s l =
      (rowF s x y a (l.drop j)).elim (qrlayout_frame_align.l0 k x y l (l.length : Int) (wrap64 (i + 1)) vv s l) (fun b => some (farT x y a b))
  | 0, k, j, h => by
    have hj : j = l.length := by omega
    subst hj
    rw [qrlayout_frame_align.l1, if_neg (by omega), List.drop_length]
    rfl
  | d + 1, k, j, h => by
    have hj : j < l.length := by omega
    have ih := al_l1 B vv a ha i d k (j + 1) (by omega)
    have hb := B.le l[j] (List.getElem_mem hj)
    have h1 := B.x0; have h2 := B.x1; have h3 := B.y0; have h4 := B.y1; have h5 := B.s0; have h6 := B.s1; have h7 := B.ll
    rw [show k + (d + 1) + 1 = (k + d + 1) + 1 by omega, qrlayout_frame_align.l1, if_pos (by omega), if_pos (by omega), if_pos (by omega), rd_nat l j hj, far_eq ⟨h1, h2⟩ ⟨h3, h4⟩ (by omega) (by omega),
      w64 (n := (j : Int) + 1) (by omega), w64 (n := s - 7) (by omega), List.drop_eq_getElem_cons hj, rowF]
    rw [show ((j : Int) + 1) = ((j + 1 : Nat) : Int) by omega, ih]
    simp only [Option.bind_some, hit]
    by_cases c1 : mn a l[j] = 6 <;> by_cases c2 : mx a l[j] = 6 <;> by_cases c3 : farT x y a l[j] ≤ 2 <;> by_cases c4 : mx a l[j] = s - 7 <;> simp [c1, c2, c3, c4]

theorem al_l0 {s x y : Int} {l : List Int} (B : Bd s x y l) (vv : Int) : ∀ (d k i : Nat), i + d = l.length →
    qrlayout_frame_align.l0 (k + d * (l.length + 2) + 1) x y l (l.length : Int) (i : Int) vv s l =
      some ((findP s x y l (l.drop i)).elim (-1) (fun p => farT x y p.1 p.2))
  | 0, k, i, h => by
    have hi : i = l.length := by omega
    subst hi
    rw [qrlayout_frame_align.l0, if_neg (by omega), List.drop_length]
    rfl
  | d + 1, k, i, h => by
    have hi : i < l.length := by omega
    have ih := al_l0 B vv d k (i + 1) (by omega)
    have hb := B.le l[i] (List.getElem_mem hi)
    have h7 := B.ll
    have e : k + (d + 1) * (l.length + 2) + 1 = ((k + d * (l.length + 2) + 1) + l.length + 1) + 1 := by
      rw [Nat.add_mul]; omega
    rw [e, qrlayout_frame_align.l0, if_pos (by omega), if_pos (by omega), if_pos (by omega), rd_nat l i hi]
    have h1 := al_l1 B vv l[i] hb (i : Int) l.length (k + d * (l.length + 2) + 1) 0 (by omega)
    rw [show ((0 : Nat) : Int) = 0 from rfl] at h1
    rw [h1, List.drop_zero, w64 (n := (i : Int) + 1) (by omega), show ((i : Int) + 1) = ((i + 1 : Nat) : Int) by omega, ih, List.drop_eq_getElem_cons hi, findP]
    cases rowF s x y l[i] l <;> rfl
theorem align_eq {s x y : Int} {l : List Int} (B : Bd s x y l) (vv : Int) (k : Nat) (hk : 70 ≤ k) : qrlayout_frame_align.f k vv s l x y = some ((findP s x y l l).elim (-1) (fun p => farT x y p.1 p.2)) := by
  have h7 := B.ll
  have hm : l.length * (l.length + 2) ≤ 7 * 9 := Nat.mul_le_mul h7 (by omega)
  have := al_l0 B vv l.length (k - l.length * (l.length + 2) - 1) 0 (by omega)
  rw [show k - l.length * (l.length + 2) - 1 + l.length * (l.length + 2) + 1 = k by omega] at this
  exact this

theorem ad_l1 {s x y : Int} {l : List Int} (B : Bd s x y l) (i : Nat) (hi : i < l.length) : ∀ (d k j : Nat), j + d = l.length →
    barscanref20_aligned.l1 (k + d + 1) l s x y (i : Int) (j : Int) =
      (rowF s x y l[i] (l.drop j)).elim (barscanref20_aligned.l0 k l s x y ((i + 1 : Nat) : Int)) (fun b => some (l[i], b, true))
  | 0, k, j, h => by
    have hj : j = l.length := by omega
    subst hj
    have h7 := B.ll
    rw [barscanref20_aligned.l1, if_neg (by omega), List.drop_length, w64 (n := (i : Int) + 1) (by omega)]
    rfl
  | d + 1, k, j, h => by
    have hj : j < l.length := by omega
    have ih := ad_l1 B i hi d k (j + 1) (by omega)
    have hb := B.le l[j] (List.getElem_mem hj)
    have ha := B.le l[i] (List.getElem_mem hi)
    have h1 := B.x0; have h2 := B.x1; have h3 := B.y0; have h4 := B.y1; have h5 := B.s0; have h6 := B.s1; have h7 := B.ll
    rw [show k + (d + 1) + 1 = (k + d + 1) + 1 by omega, barscanref20_aligned.l1, if_pos (by omega), if_pos (by omega), if_pos (by omega), if_pos (by omega), rd_nat l j hj, rd_nat l i hi,
      w64 (n := (j : Int) + 1) (by omega), w64 (n := s - 7) (by omega), w64 (n := l[i] - 2) (by omega), w64 (n := l[i] + 2) (by omega), w64 (n := l[j] - 2) (by omega), w64 (n := l[j] + 2) (by omega), List.drop_eq_getElem_cons hj, rowF]
    rw [show ((j : Int) + 1) = ((j + 1 : Nat) : Int) by omega, ih]
    rw [show ∀ (b : Bool) (o : Option Int) (E : Option (Int × Int × Bool)) (f : Int → Option (Int × Int × Bool)), (if b = true then some l[j] else o).elim E f = if b = true then f l[j] else o.elim E f from fun b o E f => by cases b <;> rfl]
    generalize (rowF s x y l[i] (l.drop (j + 1))).elim (barscanref20_aligned.l0 k l s x y ((i + 1 : Nat) : Int)) (fun b => some (l[i], b, true)) = R
    generalize l[i] = a at *
    generalize l[j] = b at *
    have hd : hit s x y a b = decide (¬ (a = 6 ∧ b = 6) ∧ ¬ (a = 6 ∧ b = s - 7) ∧ ¬ (a = s - 7 ∧ b = 6) ∧ x ≥ a - 2 ∧ x ≤ a + 2 ∧ y ≥ b - 2 ∧ y ≤ b + 2) := by
      unfold hit farT mx mn
      rw [decide_eq_decide]
      repeat' split
      all_goals omega
    rw [hd]
    simp only [decide_eq_true_eq]
    clear hd ih
    repeat' split
    all_goals first | rfl | (exfalso; omega)

theorem ad_l0 {s x y : Int} {l : List Int} (B : Bd s x y l) : ∀ (d k i : Nat), i + d = l.length →
    barscanref20_aligned.l0 (k + d * (l.length + 2) + 1) l s x y (i : Int) =
      some ((findP s x y l (l.drop i)).elim (0, 0, false) (fun p => (p.1, p.2, true)))
  | 0, k, i, h => by
    have hi : i = l.length := by omega
    subst hi
    rw [barscanref20_aligned.l0, if_neg (by omega), List.drop_length, findP]
    rfl
  | d + 1, k, i, h => by
    have hi : i < l.length := by omega
    have ih := ad_l0 B d k (i + 1) (by omega)
    have h7 := B.ll
    have e : k + (d + 1) * (l.length + 2) + 1 = ((k + d * (l.length + 2) + 1) + l.length + 1) + 1 := by
      rw [Nat.add_mul]; omega
    rw [e, barscanref20_aligned.l0, if_pos (by omega)]
    have h1 := ad_l1 B i hi l.length (k + d * (l.length + 2) + 1) 0 (by omega)
    rw [show ((0 : Nat) : Int) = 0 from rfl] at h1
    rw [h1, List.drop_zero, ih, List.drop_eq_getElem_cons hi, findP]
    cases rowF s x y l[i] l <;> rfl
theorem aligned_eq {s x y : Int} {l : List Int} (B : Bd s x y l) (k : Nat) (hk : 70 ≤ k) : barscanref20_aligned.f k l s x y = some ((findP s x y l l).elim (0, 0, false) (fun p => (p.1, p.2, true))) := by
  have h7 := B.ll
  have hm : l.length * (l.length + 2) ≤ 7 * 9 := Nat.mul_le_mul h7 (by omega)
  have := ad_l0 B l.length (k - l.length * (l.length + 2) - 1) 0 (by omega)
  rw [show k - l.length * (l.length + 2) - 1 + l.length * (l.length + 2) + 1 = k by omega] at this
  exact this

def cellT (v s : Int) (l : List Int) (x y : Int) : Int :=
  if (x < 8 ∧ y < 8) ∨ (x ≥ s - 8 ∧ y < 8) ∨ (x < 8 ∧ y ≥ s - 8) then 2
  else if (findP s x y l l).isSome = true then 4
  else if x = 6 ∨ y = 6 then 3
  else if x = 8 ∧ y = s - 8 then 7
  else if (y = 8 ∧ (x ≤ 8 ∨ x ≥ s - 8)) ∨ (x = 8 ∧ (y ≤ 8 ∨ y ≥ s - 7)) then 5
  else if v ≥ 7 ∧ ((x ≥ s - 11 ∧ x ≤ s - 9 ∧ y ≤ 5) ∨ (y ≥ s - 11 ∧ y ≤ s - 9 ∧ x ≤ 5)) then 6
  else 1
theorem farT_nonneg (x y a b : Int) : 0 ≤ farT x y a b := by unfold farT mx; repeat' split <;> omega
theorem cj3 (v s : Int) (l : List Int) (x y : Int) (k : Nat) (f : Bool) (h0 : 21 ≤ s) (h1 : s ≤ 177) : qrlayout_frame_cell.j3 (k + 1) x y s f v s l = some (if f = true then 5 else if v ≥ 7 ∧ ((x ≥ s - 11 ∧ x ≤ s - 9 ∧ y ≤ 5) ∨ (y ≥ s - 11 ∧ y ≤ s - 9 ∧ x ≤ 5)) then 6 else 1) := by
  rw [qrlayout_frame_cell.j3, w64 (n := s - 11) (by omega), w64 (n := s - 9) (by omega)]
  cases f
  · simp only [Bool.false_eq_true, if_false]
    repeat' split
    all_goals first | rfl | (exfalso; omega)
  · rfl
theorem cj2 (v s : Int) (l : List Int) (x y : Int) (k : Nat) (f : Bool) (h0 : 21 ≤ s) (h1 : s ≤ 177) : qrlayout_frame_cell.j2 (k + 2) x y s f v s l = some (if f = true then 7 else if (y = 8 ∧ (x ≤ 8 ∨ x ≥ s - 8)) ∨ (x = 8 ∧ (y ≤ 8 ∨ y ≥ s - 7)) then 5 else if v ≥ 7 ∧ ((x ≥ s - 11 ∧ x ≤ s - 9 ∧ y ≤ 5) ∨ (y ≥ s - 11 ∧ y ≤ s - 9 ∧ x ≤ 5)) then 6 else 1) := by
  rw [qrlayout_frame_cell.j2, w64 (n := s - 8) (by omega), w64 (n := s - 7) (by omega)]
  simp only [cj3 v s l x y k _ h0 h1]
  cases f
  · simp only [Bool.false_eq_true, if_false, if_true, decide_eq_true_eq]
    generalize (if v ≥ 7 ∧ ((x ≥ s - 11 ∧ x ≤ s - 9 ∧ y ≤ 5) ∨ (y ≥ s - 11 ∧ y ≤ s - 9 ∧ x ≤ 5)) then (6 : Int) else 1) = R
    repeat' split
    all_goals first | rfl | (exfalso; omega)
  · rfl
theorem cj0 (v s : Int) (l : List Int) (x y : Int) (k : Nat) (f : Bool) (B : Bd s x y l) (hk : 80 ≤ k) : qrlayout_frame_cell.j0 k x y s f v s l = some (if f = true then 2 else if (findP s x y l l).isSome = true then 4
  else if x = 6 ∨ y = 6 then 3
  else if x = 8 ∧ y = s - 8 then 7
  else if (y = 8 ∧ (x ≤ 8 ∨ x ≥ s - 8)) ∨ (x = 8 ∧ (y ≤ 8 ∨ y ≥ s - 7)) then 5
  else if v ≥ 7 ∧ ((x ≥ s - 11 ∧ x ≤ s - 9 ∧ y ≤ 5) ∨ (y ≥ s - 11 ∧ y ≤ s - 9 ∧ x ≤ 5)) then 6
  else 1) := by
  have h0 := B.s0; have h1 := B.s1
  obtain ⟨k, rfl⟩ : ∃ k', k = k' + 4 := ⟨k - 4, by omega⟩
  rw [show k + 4 = (k + 3) + 1 by omega, qrlayout_frame_cell.j0, align_eq B v (k + 3) (by omega)]
  simp only [show k + 3 = (k + 2) + 1 by omega, qrlayout_frame_cell.j1, Option.bind_some, w64 (n := s - 8) (by omega), cj2 v s l x y k _ h0 h1]
  cases f
  · simp only [Bool.false_eq_true, if_false, if_true, decide_eq_true_eq, beq_iff_eq]
    generalize (if (y = 8 ∧ (x ≤ 8 ∨ x ≥ s - 8)) ∨ (x = 8 ∧ (y ≤ 8 ∨ y ≥ s - 7)) then (5 : Int) else if v ≥ 7 ∧ ((x ≥ s - 11 ∧ x ≤ s - 9 ∧ y ≤ 5) ∨ (y ≥ s - 11 ∧ y ≤ s - 9 ∧ x ≤ 5)) then 6 else 1) = R
    have hd : (findP s x y l l).elim (-1) (fun p => farT x y p.1 p.2) ≥ 0 ↔ (findP s x y l l).isSome = true := by
      cases findP s x y l l with
      | none => simp
      | some p => simp [farT_nonneg]
    generalize (findP s x y l l).elim (-1) (fun p => farT x y p.1 p.2) = D at hd
    by_cases hs : (findP s x y l l).isSome = true
    · rw [if_pos hs, if_pos (hd.2 hs)]
    · rw [if_neg hs, if_neg (fun h => hs (hd.1 h))]
      repeat' split
      all_goals first | rfl | (exfalso; omega)
  · rfl
theorem cell_eq (v s : Int) (l : List Int) (x y : Int) (B : Bd s x y l) (k : Nat) (hk : 80 ≤ k) : qrlayout_frame_cell.f k v s l x y = some (cellT v s l x y) := by
  have h0 := B.s0; have h1 := B.s1
  unfold qrlayout_frame_cell.f cellT
  simp only [cj0 v s l x y k _ B hk, w64 (n := s - 8) (by omega), decide_eq_true_eq, Bool.false_eq_true, if_false, if_true]
  generalize (if (findP s x y l l).isSome = true then (4 : Int) else _) = R
  repeat' split
  all_goals first | rfl | (exfalso; omega)
theorem pj3 (v s : Int) (x y : Int) (k : Nat) (f : Bool) (h0 : 21 ≤ s) (h1 : s ≤ 177) (hv : s = 17 + 4 * v) : barscanref20_purpose.j3 (k + 1) s x y f = some (if f = true then 5 else if v ≥ 7 ∧ ((x ≥ s - 11 ∧ x ≤ s - 9 ∧ y ≤ 5) ∨ (y ≥ s - 11 ∧ y ≤ s - 9 ∧ x ≤ 5)) then 6 else 1) := by
  rw [barscanref20_purpose.j3, w64 (n := s - 11) (by omega), w64 (n := s - 9) (by omega)]
  cases f
  · simp only [Bool.false_eq_true, if_false]
    repeat' split
    all_goals first | rfl | (exfalso; omega)
  · rfl
theorem pj2 (v s : Int) (x y : Int) (k : Nat) (f : Bool) (h0 : 21 ≤ s) (h1 : s ≤ 177) (hv : s = 17 + 4 * v) : barscanref20_purpose.j2 (k + 2) s x y f = some (if f = true then 7 else if (y = 8 ∧ (x ≤ 8 ∨ x ≥ s - 8)) ∨ (x = 8 ∧ (y ≤ 8 ∨ y ≥ s - 7)) then 5 else if v ≥ 7 ∧ ((x ≥ s - 11 ∧ x ≤ s - 9 ∧ y ≤ 5) ∨ (y ≥ s - 11 ∧ y ≤ s - 9 ∧ x ≤ 5)) then 6 else 1) := by
  rw [barscanref20_purpose.j2, w64 (n := s - 8) (by omega), w64 (n := s - 7) (by omega)]
  simp only [pj3 v s x y k _ h0 h1 hv]
  cases f
  · simp only [Bool.false_eq_true, if_false, if_true, decide_eq_true_eq]
    generalize (if v ≥ 7 ∧ ((x ≥ s - 11 ∧ x ≤ s - 9 ∧ y ≤ 5) ∨ (y ≥ s - 11 ∧ y ≤ s - 9 ∧ x ≤ 5)) then (6 : Int) else 1) = R
    repeat' split
    all_goals first | rfl | (exfalso; omega)
  · rfl
theorem pj0 (v s : Int) (x y : Int) (k : Nat) (f g : Bool) (h0 : 21 ≤ s) (h1 : s ≤ 177) (hv : s = 17 + 4 * v) : barscanref20_purpose.j0 (k + 4) s x y g f = some (if f = true then 2 else if g = true then 4
  else if x = 6 ∨ y = 6 then 3
  else if x = 8 ∧ y = s - 8 then 7
  else if (y = 8 ∧ (x ≤ 8 ∨ x ≥ s - 8)) ∨ (x = 8 ∧ (y ≤ 8 ∨ y ≥ s - 7)) then 5
  else if v ≥ 7 ∧ ((x ≥ s - 11 ∧ x ≤ s - 9 ∧ y ≤ 5) ∨ (y ≥ s - 11 ∧ y ≤ s - 9 ∧ x ≤ 5)) then 6
  else 1) := by
  rw [show k + 4 = (k + 3) + 1 by omega, barscanref20_purpose.j0]
  simp only [show k + 3 = (k + 2) + 1 by omega, barscanref20_purpose.j1, w64 (n := s - 8) (by omega), pj2 v s x y k _ h0 h1 hv]
  cases f
  · cases g
    · simp only [Bool.false_eq_true, if_false, if_true, decide_eq_true_eq, beq_iff_eq]
      generalize (if (y = 8 ∧ (x ≤ 8 ∨ x ≥ s - 8)) ∨ (x = 8 ∧ (y ≤ 8 ∨ y ≥ s - 7)) then (5 : Int) else if v ≥ 7 ∧ ((x ≥ s - 11 ∧ x ≤ s - 9 ∧ y ≤ 5) ∨ (y ≥ s - 11 ∧ y ≤ s - 9 ∧ x ≤ 5)) then 6 else 1) = R
      repeat' split
      all_goals first | rfl | (exfalso; omega)
    · rfl
  · rfl
theorem purpose_eq (v s : Int) (l : List Int) (x y : Int) (B : Bd s x y l) (hv : s = 17 + 4 * v) (k : Nat) (hk : 80 ≤ k) : barscanref20_purpose.f k l s x y = some (cellT v s l x y) := by
  have h0 := B.s0; have h1 := B.s1
  obtain ⟨k, rfl⟩ : ∃ k', k = k' + 4 := ⟨k - 4, by omega⟩
  unfold barscanref20_purpose.f cellT
  rw [aligned_eq B (k + 4) (by omega), Option.bind_some]
  have hg : ((findP s x y l l).elim (0, 0, false) (fun p => (p.1, p.2, true)) : Int × Int × Bool).2.2 = (findP s x y l l).isSome := by cases findP s x y l l <;> rfl
  simp only [hg, pj0 v s x y k _ _ h0 h1 hv, w64 (n := s - 8) (by omega), decide_eq_true_eq, Bool.false_eq_true, if_false, if_true]
  generalize (if (findP s x y l l).isSome = true then (4 : Int) else _) = R
  repeat' split
  all_goals first | rfl | (exfalso; omega)

theorem al_ref : ∀ v : Fin 40, barscanref17_Aligns.f 100 ((v.val + 1 : Nat) : Int) = some (alg ((v.val + 1 : Nat) : Int), 0) := by decide +kernel
theorem al_ok : ∀ v : Fin 40, (alg ((v.val + 1 : Nat) : Int)).length ≤ 7 ∧ ∀ e ∈ alg ((v.val + 1 : Nat) : Int), 6 ≤ e ∧ e ≤ 177 := by decide +kernel
theorem of_fin {v : Int} (h : 1 ≤ v ∧ v ≤ 40) : ∃ i : Fin 40, v = ((i.val + 1 : Nat) : Int) := ⟨⟨(v - 1).toNat, by omega⟩, by simp; omega⟩
theorem mono_le {α : Type} {f : Nat → Option α} (h : ∀ k, LeO (f k) (f (k + 1))) {k k' : Nat} {r : α} (hk : k ≤ k') (hf : f k = some r) : f k' = some r := by
  induction hk with
  | refl => exact hf
  | step _ ih => exact h _ _ ih
theorem refAligns {v : Int} (h : 1 ≤ v ∧ v ≤ 40) (k : Nat) (hk : 100 ≤ k) : barscanref17_Aligns.f k v = some (alg v, 0) := by
  obtain ⟨i, rfl⟩ := of_fin h
  exact mono_le (f := fun k => barscanref17_Aligns.f k _) (fun k => barscanref17_Aligns.mono _ k) hk (al_ref i)
theorem bd_of {v x y : Int} (h : 1 ≤ v ∧ v ≤ 40) (hx : -1000 ≤ x ∧ x ≤ 1000) (hy : -1000 ≤ y ∧ y ≤ 1000) : Bd (17 + 4 * v) x y (alg v) := by
  obtain ⟨i, rfl⟩ := of_fin h
  have := al_ok i
  exact ⟨by omega, by omega, hx.1, hx.2, hy.1, hy.2, this.2, this.1⟩
theorem valid_yes {v : Int} (h : 1 ≤ v ∧ v ≤ 40) : qrversion_valid.f v = some true := by rw [valid_of, decide_eq_true h]
theorem valid_no {v : Int} (h : ¬ (1 ≤ v ∧ v ≤ 40)) : qrversion_valid.f v = some false := by rw [valid_of, decide_eq_false h]
theorem frame_yes {v : Int} (h : 1 ≤ v ∧ v ≤ 40) (k : Nat) : qrlayout_frameOf.f k v = some (v, 17 + 4 * v, alg v, 0) := by
  unfold qrlayout_frameOf.f qrversion_Size.f qrversion_Aligns.f
  rw [valid_yes h, w64 (n := 4 * v) (by omega), w64 (n := 17 + 4 * v) (by omega)]
  simp [h]
theorem frame_no {v : Int} (h : ¬ (1 ≤ v ∧ v ≤ 40)) (k : Nat) : qrlayout_frameOf.f k v = some (0, 0, [], 14) := by
  unfold qrlayout_frameOf.f qrversion_Size.f
  rw [valid_no h]
  simp
theorem size_yes {v : Int} (h : 1 ≤ v ∧ v ≤ 40) : barscanref17_Size.f v = some (17 + 4 * v, 0) := by
  unfold barscanref17_Size.f
  rw [if_neg (by omega), if_neg (by omega), w64 (n := 4 * v) (by omega), w64 (n := 17 + 4 * v) (by omega)]
end Go.Proofs.Ytbbnagjfjgkgjaa.Pure

/- Cells and its reference: the same list. -/
namespace Go.Proofs.Ytbbnagjfjgkgjaa.Pure
open Go.RowKit Go.Proofs.Ytbbnagjfjgkgjaa.L Go.Proofs.YtbbnagjfjgkgjaaW.PrintWords Go.Proofs.YtbbnagjfjgkgjaaW.PrintLast Go.Proofs.YtbbnagjfjgkgjaaW.PrintMore
set_option linter.unusedVariables false
set_option linter.unusedSimpArgs false

def sd (v : Int) : Nat := (17 + 4 * v).toNat
def gridL (v : Int) (n : Nat) : List Int := (List.range n).map fun (i : Nat) => cellT v (17 + 4 * v) (alg v) ((i % sd v : Nat) : Int) ((i / sd v : Nat) : Int)
theorem gridL_len (v : Int) (n : Nat) : (gridL v n).length = n := by simp [gridL]
theorem gridL_succ (v : Int) (n : Nat) : gridL v (n + 1) = gridL v n ++ [cellT v (17 + 4 * v) (alg v) ((n % sd v : Nat) : Int) ((n / sd v : Nat) : Int)] := by simp [gridL, List.range_succ]
theorem sd_eq {v : Int} (h : 1 ≤ v ∧ v ≤ 40) : ((sd v : Nat) : Int) = 17 + 4 * v := by unfold sd; omega
theorem sd_bd {v : Int} (h : 1 ≤ v ∧ v ≤ 40) : 21 ≤ sd v ∧ sd v ≤ 177 := by unfold sd; omega

theorem cells_l1 {v : Int} (h : 1 ≤ v ∧ v ≤ 40) (y : Nat) (hy : y < sd v) : ∀ (d k x : Nat), x + d = sd v → 80 ≤ k →
    qrlayout_Cells.l1 (k + d + 1) (gridL v (y * sd v + x)) (y : Int) (17 + 4 * v) (y : Int) (17 + 4 * v) (x : Int) v (17 + 4 * v) (alg v) =
      qrlayout_Cells.l0 k (gridL v ((y + 1) * sd v)) (17 + 4 * v) ((y + 1 : Nat) : Int) v (17 + 4 * v) (alg v)
  | 0, k, x, hx, hk => by
    have hs := sd_eq h; have hb := sd_bd h
    rw [qrlayout_Cells.l1, if_neg (by omega), w64 (n := (y : Int) + 1) (by omega), show y * sd v + x = (y + 1) * sd v by rw [Nat.add_mul]; omega]
    rfl
  | d + 1, k, x, hx, hk => by
    have hs := sd_eq h; have hb := sd_bd h
    have ih := cells_l1 h y hy d k (x + 1) (by omega) hk
    have hyx : y * sd v + x < 177 * 178 := by
      have : y * sd v ≤ 177 * 177 := Nat.mul_le_mul (by omega) (by omega)
      omega
    rw [show k + (d + 1) + 1 = (k + d + 1) + 1 by omega, qrlayout_Cells.l1, if_pos (by omega), cell_eq v (17 + 4 * v) (alg v) (x : Int) (y : Int) (bd_of h (by omega) (by omega)) (k + d + 1) (by omega), Option.bind_some, gridL_len, if_pos (by omega), w64 (n := (x : Int) + 1) (by omega),
      show ((x : Int) + 1) = ((x + 1 : Nat) : Int) by omega, ← ih, ← Nat.add_assoc, gridL_succ]
    have e1 : (y * sd v + x) % sd v = x := by rw [Nat.mul_comm, Nat.mul_add_mod]; exact Nat.mod_eq_of_lt (by omega)
    have e2 : (y * sd v + x) / sd v = y := by rw [Nat.mul_comm, Nat.mul_add_div (by omega), Nat.div_eq_of_lt (by omega), Nat.add_zero]
    rw [e1, e2]
theorem cells_l0 {v : Int} (h : 1 ≤ v ∧ v ≤ 40) : ∀ (d k y : Nat), y + d = sd v → 80 ≤ k →
    qrlayout_Cells.l0 (k + d * (sd v + 2) + 1) (gridL v (y * sd v)) (17 + 4 * v) (y : Int) v (17 + 4 * v) (alg v) = some (gridL v (sd v * sd v), 0)
  | 0, k, y, hy, hk => by
    have hs := sd_eq h
    rw [qrlayout_Cells.l0, if_neg (by omega), show y = sd v by omega]
  | d + 1, k, y, hy, hk => by
    have hs := sd_eq h; have hb := sd_bd h
    have ih := cells_l0 h d k (y + 1) (by omega) hk
    have e : k + (d + 1) * (sd v + 2) + 1 = ((k + d * (sd v + 2) + 1) + sd v + 1) + 1 := by
      rw [Nat.add_mul]; omega
    have h1 := cells_l1 h y (by omega) (sd v) (k + d * (sd v + 2) + 1) 0 (by omega) (by omega)
    simp only [Nat.add_zero] at h1
    rw [show ((0 : Nat) : Int) = 0 from rfl] at h1
    rw [e, qrlayout_Cells.l0, if_pos (by omega), h1, ih]
theorem cells_yes {v : Int} (h : 1 ≤ v ∧ v ≤ 40) (k : Nat) (hk : 40000 ≤ k) : qrlayout_Cells.f k v = some (gridL v (sd v * sd v), 0) := by
  have hs := sd_eq h; have hb := sd_bd h
  have hm : sd v * (sd v + 2) ≤ 177 * 179 := Nat.mul_le_mul (by omega) (by omega)
  have := cells_l0 h (sd v) (k - sd v * (sd v + 2) - 1) 0 (by omega) (by omega)
  rw [show k - sd v * (sd v + 2) - 1 + sd v * (sd v + 2) + 1 = k by omega, Nat.zero_mul] at this
  unfold qrlayout_Cells.f
  rw [frame_yes h, Option.bind_some]
  exact this
theorem refcells_l0 {v : Int} (h : 1 ≤ v ∧ v ≤ 40) : ∀ (d k i : Nat), i + d = sd v * sd v → 80 ≤ k →
    barscanref20_Cells.l0 (k + d + 1) (17 + 4 * v) (alg v) (gridL v i ++ List.replicate d 0) (i : Int) = some (gridL v (sd v * sd v), 0)
  | 0, k, i, hi, hk => by
    have hs := sd_eq h; have hb := sd_bd h
    have hm : sd v * sd v ≤ 177 * 177 := Nat.mul_le_mul (by omega) (by omega)
    have e : (17 + 4 * v) * (17 + 4 * v) = ((sd v * sd v : Nat) : Int) := by rw [Int.natCast_mul, hs]
    rw [barscanref20_Cells.l0, e, w64 (by omega), if_neg (by omega), List.replicate_zero, List.append_nil, show i = sd v * sd v by omega]
  | d + 1, k, i, hi, hk => by
    have hs := sd_eq h; have hb := sd_bd h
    have hm : sd v * sd v ≤ 177 * 177 := Nat.mul_le_mul (by omega) (by omega)
    have e : (17 + 4 * v) * (17 + 4 * v) = ((sd v * sd v : Nat) : Int) := by rw [Int.natCast_mul, hs]
    have ih := refcells_l0 h d k (i + 1) (by omega) hk
    have t1 : Int.tmod (i : Int) (17 + 4 * v) = ((i % sd v : Nat) : Int) := by rw [← hs, Int.tmod_eq_emod_of_nonneg (by omega)]; rfl
    have t2 : Int.tdiv (i : Int) (17 + 4 * v) = ((i / sd v : Nat) : Int) := by rw [← hs, Int.tdiv_eq_ediv_of_nonneg (by omega)]; rfl
    have b1 : i % sd v < sd v := Nat.mod_lt _ (by omega)
    have b2 : i / sd v < sd v := Nat.div_lt_of_lt_mul (by omega)
    have gs := gridL_succ v i
    obtain ⟨q, hq⟩ : ∃ q, i / sd v = q := ⟨_, rfl⟩
    obtain ⟨r, hr⟩ : ∃ r, i % sd v = r := ⟨_, rfl⟩
    rw [hq] at t2 b2 gs
    rw [hr] at t1 b1 gs
    rw [show k + (d + 1) + 1 = (k + d + 1) + 1 by omega, barscanref20_Cells.l0, e, w64 (n := ((sd v * sd v : Nat) : Int)) (by omega), if_pos (by omega), if_neg (by omega), t1, t2, w64 (n := (q : Int)) (by omega),
      purpose_eq v (17 + 4 * v) (alg v) _ _ (bd_of h (by omega) (by omega)) rfl (k + d + 1) (by omega), Option.bind_some, if_pos (by omega), List.length_append, gridL_len, List.length_replicate, if_pos (by omega), w64 (n := (i : Int) + 1) (by omega),
      show ((i : Int) + 1) = ((i + 1 : Nat) : Int) by omega, ← ih, gs]
    congr 1
    rw [Int.toNat_natCast, List.set_append_right _ _ (by rw [gridL_len]; omega), gridL_len, Nat.sub_self, List.replicate_succ, List.set_cons_zero, List.append_assoc]
    rfl
theorem refcells_yes {v : Int} (h : 1 ≤ v ∧ v ≤ 40) (k : Nat) (hk : 40000 ≤ k) : barscanref20_Cells.f k v = some (gridL v (sd v * sd v), 0) := by
  have hs := sd_eq h; have hb := sd_bd h
  have hm : sd v * sd v ≤ 177 * 177 := Nat.mul_le_mul (by omega) (by omega)
  have e : (17 + 4 * v) * (17 + 4 * v) = ((sd v * sd v : Nat) : Int) := by rw [Int.natCast_mul, hs]
  have := refcells_l0 h (sd v * sd v) (k - sd v * sd v - 1) 0 (by omega) (by omega)
  rw [show k - sd v * sd v - 1 + sd v * sd v + 1 = k by omega] at this
  unfold barscanref20_Cells.f
  rw [size_yes h, Option.bind_some, if_pos rfl, refAligns h k (by omega), Option.bind_some]
  simp only [e]
  rw [w64 (n := ((sd v * sd v : Nat) : Int)) (by omega), if_pos (by omega), Int.toNat_natCast, if_pos (by omega)]
  exact this
end Go.Proofs.Ytbbnagjfjgkgjaa.Pure

/- A matrix's version, as both sides tell it. -/
namespace Go.Proofs.Ytbbnagjfjgkgjaa.Pure
open Go.RowKit Go.Proofs.Ytbbnagjfjgkgjaa.L Go.Proofs.YtbbnagjfjgkgjaaW.PrintWords Go.Proofs.YtbbnagjfjgkgjaaW.PrintLast Go.Proofs.YtbbnagjfjgkgjaaW.PrintMore
set_option linter.unusedVariables false
set_option linter.unusedSimpArgs false

def sdS (v : Int) : Nat := (17 + 4 * v).toNat
theorem sdS_eq {v : Int} (h : 1 ≤ v ∧ v ≤ 40) : ((sdS v : Nat) : Int) = 17 + 4 * v := by unfold sdS; omega
theorem valid_eq (W H : Int) (l : List Bool) : barscanref20_Sound.f W H l = qrlayout_valid.f W H l := by
  unfold barscanref20_Sound.f qrlayout_valid.f
  repeat' split
  all_goals first | rfl | omega
theorem valid_some (W H : Int) (l : List Bool) : ∃ b, qrlayout_valid.f W H l = some b ∧ (b = true → 1 ≤ W ∧ W ≤ 4096 ∧ 1 ≤ H ∧ H ≤ 4096 ∧ (l.length : Int) = W * H) := by
  unfold qrlayout_valid.f
  repeat' split
  all_goals refine ⟨_, rfl, fun hb => ?_⟩
  all_goals try (simp at hb; done)
  have hm : W * H ≤ 4096 * 4096 := Int.mul_le_mul (by omega) (by omega) (by omega) (by omega)
  have h0 : 0 ≤ W * H := Int.mul_nonneg (by omega) (by omega)
  rw [w64 (by omega)] at hb
  exact ⟨by omega, by omega, by omega, by omega, by simpa using hb⟩
theorem sized_cases (W H : Int) (l : List Bool) :
    (∃ v, 1 ≤ v ∧ v ≤ 40 ∧ W = 17 + 4 * v ∧ H = W ∧ l.length = sdS v * sdS v ∧ (∀ k, qrlayout_sized.f k W H l = some (v, 17 + 4 * v, alg v, 0)) ∧ barscanref20_Version.f W H l = some (v, 0)) ∨
    (∃ e, e ≠ 0 ∧ (∀ k, qrlayout_sized.f k W H l = some (0, 0, [], e)) ∧ barscanref20_Version.f W H l = some (0, e)) := by
  obtain ⟨b, hb, hbt⟩ := valid_some W H l
  unfold barscanref20_Version.f
  rw [valid_eq, hb]
  have hs : ∀ k, qrlayout_sized.f k W H l = (some b).bind fun t157 => (if t157 = true then ((qrlayout_frameOf.f k (wrap64 (Int.tdiv (wrap64 (W - 17)) 4))).bind fun bt158 => (if bt158.2.2.2 = 0 then (if bt158.2.1 = W then (if H = W then (some (bt158.1, bt158.2.1, bt158.2.2.1, 0)) else (some (0, 0, ([] : List Int), 23))) else (some (0, 0, ([] : List Int), 23))) else (some (0, 0, ([] : List Int), 23)))) else (some (0, 0, ([] : List Int), 1))) := fun k => by
    unfold qrlayout_sized.f
    rw [hb]
  simp only [hs, Option.bind_some]
  cases b with
  | false => exact .inr ⟨1, by decide, fun k => rfl, rfl⟩
  | true =>
    obtain ⟨g1, g2, g3, g4, g5⟩ := hbt rfl
    simp only [if_true]
    rw [w64 (n := W - 17) (by omega)]
    have hq : Int.tdiv (W - 17) 4 = if 17 ≤ W then (W - 17) / 4 else -((17 - W) / 4) := by
      split
      · exact Int.tdiv_eq_ediv_of_nonneg (by omega)
      · rw [show W - 17 = -(17 - W) by omega, Int.neg_tdiv, Int.tdiv_eq_ediv_of_nonneg (by omega)]
    obtain ⟨q, hqq⟩ : ∃ q, Int.tdiv (W - 17) 4 = q := ⟨_, rfl⟩
    rw [hqq] at hq ⊢
    have hqb : -1000 ≤ q ∧ q ≤ 2000 := by split at hq <;> omega
    rw [w64 (n := q) (by omega)]
    have hm4 : 0 ≤ W → Int.tmod W 4 = W % 4 := fun h => Int.tmod_eq_emod_of_nonneg h
    rw [hm4 (by omega)]
    by_cases hv : 1 ≤ q ∧ q ≤ 40
    · by_cases hw : 17 + 4 * q = W
      · by_cases hh : H = W
        · left
          refine ⟨q, hv.1, hv.2, hw.symm, hh, ?_, fun k => ?_, ?_⟩
          · have h1 := sdS_eq hv
            have : ((l.length : Nat) : Int) = ((sdS q * sdS q : Nat) : Int) := by rw [Int.natCast_mul, h1, hw, g5, hh]
            exact Int.ofNat.inj this
          · rw [frame_yes hv, Option.bind_some, if_pos rfl, if_pos hw, if_pos hh]
          · rw [if_pos hh.symm, if_neg (by omega), if_neg (by omega), if_pos (by omega)]
        · right
          refine ⟨23, by decide, fun k => ?_, ?_⟩
          · rw [frame_yes hv, Option.bind_some, if_pos rfl, if_pos hw, if_neg hh]
          · rw [if_neg (fun h => hh h.symm)]
      · right
        refine ⟨23, by decide, fun k => ?_, ?_⟩
        · rw [frame_yes hv, Option.bind_some, if_pos rfl, if_neg hw]
        · repeat' split
          all_goals first | rfl | (exfalso; split at hq <;> omega)
    · right
      refine ⟨23, by decide, fun k => ?_, ?_⟩
      · rw [frame_no hv, Option.bind_some, if_neg (by decide)]
      · repeat' split
        all_goals first | rfl | (exfalso; split at hq <;> omega)

end Go.Proofs.Ytbbnagjfjgkgjaa.Pure
