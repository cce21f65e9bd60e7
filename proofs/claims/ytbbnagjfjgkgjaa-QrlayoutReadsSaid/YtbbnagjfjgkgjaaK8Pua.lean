/- What qrlayout and its reference say of single modules: the same. -/
import Derived.Test.YtbbnagjfjgkgjaaK8Lx15
import Derived.Test.YtbbnagjfjgkgjaaK8Lx3
namespace Go.Proofs.Ytbbnagjfjgkgjaa.Pure
open Go.RowKit Go.Proofs.Ytbbnagjfjgkgjaa.L Go.Proofs.YtbbnagjfjgkgjaaW.PrintWords Go.Proofs.YtbbnagjfjgkgjaaW.PrintLast Go.Proofs.YtbbnagjfjgkgjaaW.PrintMore
set_option linter.unusedVariables false
set_option linter.unusedSimpArgs false

theorem w64 {n : Int} (h : -9223372036854775808 ≤ n ∧ n ≤ 9223372036854775807) : wrap64 n = n := by unfold wrap64; omega
def farT (x y a b : Int) : Int := mx (mx (mx (x - a) (a - x)) (y - b)) (b - y)
def hit (s x y a b : Int) : Bool := decide (farT x y a b ≤ 2 ∧ ¬ (mn a b = 6 ∧ (mx a b = 6 ∨ mx a b = s - 7)))
def rowF (s x y a : Int) : List Int → Option Int
  | [] => none
  | b :: bs => if hit s x y a b = true then some b else rowF s x y a bs
def findP (s x y : Int) (l : List Int) : List Int → Option (Int × Int)
  | [] => none
  | a :: ar => (rowF s x y a l).elim (findP s x y l ar) (fun b => some (a, b))
structure Bd (s x y : Int) (l : List Int) : Prop where
  s0 : 21 ≤ s
  s1 : s ≤ 177
  x0 : -1000 ≤ x
  x1 : x ≤ 1000
  y0 : -1000 ≤ y
  y1 : y ≤ 1000
  le : ∀ e ∈ l, 6 ≤ e ∧ e ≤ 177
  ll : l.length ≤ 7

theorem far_eq {x y a b : Int} (hx : -1000 ≤ x ∧ x ≤ 1000) (hy : -1000 ≤ y ∧ y ≤ 1000) (ha : -1000 ≤ a ∧ a ≤ 1000) (hb : -1000 ≤ b ∧ b ≤ 1000) : qrlayout_far.f x y a b = some (farT x y a b) := by
  unfold qrlayout_far.f farT
  rw [w64 (n := x - a) (by omega), w64 (n := a - x) (by omega), w64 (n := y - b) (by omega), w64 (n := b - y) (by omega)]

theorem rd_nat (l : List Int) (j : Nat) (h : j < l.length) : rd l (j : Int) = l[j] := by
  simp [rd, List.getD_eq_getElem?_getD, List.getElem?_eq_getElem h]

theorem al_l1 {s x y : Int} {l : List Int} (B : Bd s x y l) (vv a : Int) (ha : 6 ≤ a ∧ a ≤ 177) (i : Int) : ∀ (d k j : Nat), j + d = l.length →
    qrlayout_frame_align.l1 (k + d + 1) x y a l (l.length : Int) i l (l.length : Int) (j : Int) vv s l =
      (rowF s x y a (l.drop j)).elim (qrlayout_frame_align.l0 k x y l (l.length : Int) (wrap64 (i + 1)) vv s l) (fun b => some (farT x y a b))
  | 0, k, j, h => by
    have hj : j = l.length := by omega
    subst hj
    rw [qrlayout_frame_align.l1, if_neg (by omega), List.drop_length]
    rfl
  | d + 1, k, j, h => by
    have hj : j < l.length := by omega
    have ih := al_l1 B vv a ha i d k (j + 1) (by omega)
    have hb := B.le l[j] (List.getElem_mem hj)
    have h1 := B.x0; have h2 := B.x1; have h3 := B.y0; have h4 := B.y1; have h5 := B.s0; have h6 := B.s1; have h7 := B.ll
    rw [show k + (d + 1) + 1 = (k + d + 1) + 1 by omega, qrlayout_frame_align.l1, if_pos (by omega), if_pos (by omega), if_pos (by omega), rd_nat l j hj, far_eq ⟨h1, h2⟩ ⟨h3, h4⟩ (by omega) (by omega),
      w64 (n := (j : Int) + 1) (by omega), w64 (n := s - 7) (by omega), List.drop_eq_getElem_cons hj, rowF]
    rw [show ((j : Int) + 1) = ((j + 1 : Nat) : Int) by omega, ih]
    simp only [Option.bind_some, hit]
    by_cases c1 : mn a l[j] = 6 <;> by_cases c2 : mx a l[j] = 6 <;> by_cases c3 : farT x y a l[j] ≤ 2 <;> by_cases c4 : mx a l[j] = s - 7 <;> simp [c1, c2, c3, c4]

theorem al_l0 {s x y : Int} {l : List Int} (B : Bd s x y l) (vv : Int) : ∀ (d k i : Nat), i + d = l.length →
    qrlayout_frame_align.l0 (k + d * (l.length + 2) + 1) x y l (l.length : Int) (i : Int) vv s l =
      some ((findP s x y l (l.drop i)).elim (-1) (fun p => farT x y p.1 p.2))
  | 0, k, i, h => by
    have hi : i = l.length := by omega
    subst hi
    rw [qrlayout_frame_align.l0, if_neg (by omega), List.drop_length]
    rfl
  | d + 1, k, i, h => by
    have hi : i < l.length := by omega
    have ih := al_l0 B vv d k (i + 1) (by omega)
    have hb := B.le l[i] (List.getElem_mem hi)
    have h7 := B.ll
    have e : k + (d + 1) * (l.length + 2) + 1 = ((k + d * (l.length + 2) + 1) + l.length + 1) + 1 := by
      rw [Nat.add_mul]; omega
    rw [e, qrlayout_frame_align.l0, if_pos (by omega), if_pos (by omega), if_pos (by omega), rd_nat l i hi]
    have h1 := al_l1 B vv l[i] hb (i : Int) l.length (k + d * (l.length + 2) + 1) 0 (by omega)
    rw [show ((0 : Nat) : Int) = 0 from rfl] at h1
    rw [h1, List.drop_zero, w64 (n := (i : Int) + 1) (by omega), show ((i : Int) + 1) = ((i + 1 : Nat) : Int) by omega, ih, List.drop_eq_getElem_cons hi, findP]
    cases rowF s x y l[i] l <;> rfl
theorem align_eq {s x y : Int} {l : List Int} (B : Bd s x y l) (vv : Int) (k : Nat) (hk : 70 ≤ k) : qrlayout_frame_align.f k vv s l x y = some ((findP s x y l l).elim (-1) (fun p => farT x y p.1 p.2)) := by
  have h7 := B.ll
  have hm : l.length * (l.length + 2) ≤ 7 * 9 := Nat.mul_le_mul h7 (by omega)
  have := al_l0 B vv l.length (k - l.length * (l.length + 2) - 1) 0 (by omega)
  rw [show k - l.length * (l.length + 2) - 1 + l.length * (l.length + 2) + 1 = k by omega] at this
  exact this

theorem ad_l1 {s x y : Int} {l : List Int} (B : Bd s x y l) (i : Nat) (hi : i < l.length) : ∀ (d k j : Nat), j + d = l.length →
    barscanref20_aligned.l1 (k + d + 1) l s x y (i : Int) (j : Int) =
      (rowF s x y l[i] (l.drop j)).elim (barscanref20_aligned.l0 k l s x y ((i + 1 : Nat) : Int)) (fun b => some (l[i], b, true))
  | 0, k, j, h => by
    have hj : j = l.length := by omega
    subst hj
    have h7 := B.ll
    rw [barscanref20_aligned.l1, if_neg (by omega), List.drop_length, w64 (n := (i : Int) + 1) (by omega)]
    rfl
  | d + 1, k, j, h => by
    have hj : j < l.length := by omega
    have ih := ad_l1 B i hi d k (j + 1) (by omega)
    have hb := B.le l[j] (List.getElem_mem hj)
    have ha := B.le l[i] (List.getElem_mem hi)
    have h1 := B.x0; have h2 := B.x1; have h3 := B.y0; have h4 := B.y1; have h5 := B.s0; have h6 := B.s1; have h7 := B.ll
    rw [show k + (d + 1) + 1 = (k + d + 1) + 1 by omega, barscanref20_aligned.l1, if_pos (by omega), if_pos (by omega), if_pos (by omega), if_pos (by omega), rd_nat l j hj, rd_nat l i hi,
      w64 (n := (j : Int) + 1) (by omega), w64 (n := s - 7) (by omega), w64 (n := l[i] - 2) (by omega), w64 (n := l[i] + 2) (by omega), w64 (n := l[j] - 2) (by omega), w64 (n := l[j] + 2) (by omega), List.drop_eq_getElem_cons hj, rowF]
    rw [show ((j : Int) + 1) = ((j + 1 : Nat) : Int) by omega, ih]
    rw [show ∀ (b : Bool) (o : Option Int) (E : Option (Int × Int × Bool)) (f : Int → Option (Int × Int × Bool)), (if b = true then some l[j] else o).elim E f = if b = true then f l[j] else o.elim E f from fun b o E f => by cases b <;> rfl]
    generalize (rowF s x y l[i] (l.drop (j + 1))).elim (barscanref20_aligned.l0 k l s x y ((i + 1 : Nat) : Int)) (fun b => some (l[i], b, true)) = R
    generalize l[i] = a at *
    generalize l[j] = b at *
    have hd : hit s x y a b = decide (¬ (a = 6 ∧ b = 6) ∧ ¬ (a = 6 ∧ b = s - 7) ∧ ¬ (a = s - 7 ∧ b = 6) ∧ x ≥ a - 2 ∧ x ≤ a + 2 ∧ y ≥ b - 2 ∧ y ≤ b + 2) := by
      unfold hit farT mx mn
      rw [decide_eq_decide]
      repeat' split
      all_goals omega
    rw [hd]
    simp only [decide_eq_true_eq]
    clear hd ih
    repeat' split
    all_goals first | rfl | (exfalso; omega)

theorem ad_l0 {s x y : Int} {l : List Int} (B : Bd s x y l) : ∀ (d k i : Nat), i + d = l.length →
    barscanref20_aligned.l0 (k + d * (l.length + 2) + 1) l s x y (i : Int) =
      some ((findP s x y l (l.drop i)).elim (0, 0, false) (fun p => (p.1, p.2, true)))
  | 0, k, i, h => by
    have hi : i = l.length := by omega
    subst hi
    rw [barscanref20_aligned.l0, if_neg (by omega), List.drop_length, findP]
    rfl
  | d + 1, k, i, h => by
    have hi : i < l.length := by omega
    have ih := ad_l0 B d k (i + 1) (by omega)
    have h7 := B.ll
    have e : k + (d + 1) * (l.length + 2) + 1 = ((k + d * (l.length + 2) + 1) + l.length + 1) + 1 := by
      rw [Nat.add_mul]; omega
    rw [e, barscanref20_aligned.l0, if_pos (by omega)]
    have h1 := ad_l1 B i hi l.length (k + d * (l.length + 2) + 1) 0 (by omega)
    rw [show ((0 : Nat) : Int) = 0 from rfl] at h1
    rw [h1, List.drop_zero, ih, List.drop_eq_getElem_cons hi, findP]
    cases rowF s x y l[i] l <;> rfl
theorem aligned_eq {s x y : Int} {l : List Int} (B : Bd s x y l) (k : Nat) (hk : 70 ≤ k) : barscanref20_aligned.f k l s x y = some ((findP s x y l l).elim (0, 0, false) (fun p => (p.1, p.2, true))) := by
  have h7 := B.ll
  have hm : l.length * (l.length + 2) ≤ 7 * 9 := Nat.mul_le_mul h7 (by omega)
  have := ad_l0 B l.length (k - l.length * (l.length + 2) - 1) 0 (by omega)
  rw [show k - l.length * (l.length + 2) - 1 + l.length * (l.length + 2) + 1 = k by omega] at this
  exact this

def cellT (v s : Int) (l : List Int) (x y : Int) : Int :=
  if (x < 8 ∧ y < 8) ∨ (x ≥ s - 8 ∧ y < 8) ∨ (x < 8 ∧ y ≥ s - 8) then 2
  else if (findP s x y l l).isSome = true then 4
  else if x = 6 ∨ y = 6 then 3
  else if x = 8 ∧ y = s - 8 then 7
  else if (y = 8 ∧ (x ≤ 8 ∨ x ≥ s - 8)) ∨ (x = 8 ∧ (y ≤ 8 ∨ y ≥ s - 7)) then 5
  else if v ≥ 7 ∧ ((x ≥ s - 11 ∧ x ≤ s - 9 ∧ y ≤ 5) ∨ (y ≥ s - 11 ∧ y ≤ s - 9 ∧ x ≤ 5)) then 6
  else 1
theorem farT_nonneg (x y a b : Int) : 0 ≤ farT x y a b := by unfold farT mx; repeat' split <;> omega
theorem cj3 (v s : Int) (l : List Int) (x y : Int) (k : Nat) (f : Bool) (h0 : 21 ≤ s) (h1 : s ≤ 177) : qrlayout_frame_cell.j3 (k + 1) x y s f v s l = some (if f = true then 5 else if v ≥ 7 ∧ ((x ≥ s - 11 ∧ x ≤ s - 9 ∧ y ≤ 5) ∨ (y ≥ s - 11 ∧ y ≤ s - 9 ∧ x ≤ 5)) then 6 else 1) := by
  rw [qrlayout_frame_cell.j3, w64 (n := s - 11) (by omega), w64 (n := s - 9) (by omega)]
  cases f
  · simp only [Bool.false_eq_true, if_false]
    repeat' split
    all_goals first | rfl | (exfalso; omega)
  · rfl
theorem cj2 (v s : Int) (l : List Int) (x y : Int) (k : Nat) (f : Bool) (h0 : 21 ≤ s) (h1 : s ≤ 177) : qrlayout_frame_cell.j2 (k + 2) x y s f v s l = some (if f = true then 7 else if (y = 8 ∧ (x ≤ 8 ∨ x ≥ s - 8)) ∨ (x = 8 ∧ (y ≤ 8 ∨ y ≥ s - 7)) then 5 else if v ≥ 7 ∧ ((x ≥ s - 11 ∧ x ≤ s - 9 ∧ y ≤ 5) ∨ (y ≥ s - 11 ∧ y ≤ s - 9 ∧ x ≤ 5)) then 6 else 1) := by
  rw [qrlayout_frame_cell.j2, w64 (n := s - 8) (by omega), w64 (n := s - 7) (by omega)]
  simp only [cj3 v s l x y k _ h0 h1]
  cases f
  · simp only [Bool.false_eq_true, if_false, if_true, decide_eq_true_eq]
    generalize (if v ≥ 7 ∧ ((x ≥ s - 11 ∧ x ≤ s - 9 ∧ y ≤ 5) ∨ (y ≥ s - 11 ∧ y ≤ s - 9 ∧ x ≤ 5)) then (6 : Int) else 1) = R
    repeat' split
    all_goals first | rfl | (exfalso; omega)
  · rfl
theorem cj0 (v s : Int) (l : List Int) (x y : Int) (k : Nat) (f : Bool) (B : Bd s x y l) (hk : 80 ≤ k) : qrlayout_frame_cell.j0 k x y s f v s l = some (if f = true then 2 else if (findP s x y l l).isSome = true then 4
  else if x = 6 ∨ y = 6 then 3
  else if x = 8 ∧ y = s - 8 then 7
  else if (y = 8 ∧ (x ≤ 8 ∨ x ≥ s - 8)) ∨ (x = 8 ∧ (y ≤ 8 ∨ y ≥ s - 7)) then 5
  else if v ≥ 7 ∧ ((x ≥ s - 11 ∧ x ≤ s - 9 ∧ y ≤ 5) ∨ (y ≥ s - 11 ∧ y ≤ s - 9 ∧ x ≤ 5)) then 6
  else 1) := by
  have h0 := B.s0; have h1 := B.s1
  obtain ⟨k, rfl⟩ : ∃ k', k = k' + 4 := ⟨k - 4, by omega⟩
  rw [show k + 4 = (k + 3) + 1 by omega, qrlayout_frame_cell.j0, align_eq B v (k + 3) (by omega)]
  simp only [show k + 3 = (k + 2) + 1 by omega, qrlayout_frame_cell.j1, Option.bind_some, w64 (n := s - 8) (by omega), cj2 v s l x y k _ h0 h1]
  cases f
  · simp only [Bool.false_eq_true, if_false, if_true, decide_eq_true_eq, beq_iff_eq]
    generalize (if (y = 8 ∧ (x ≤ 8 ∨ x ≥ s - 8)) ∨ (x = 8 ∧ (y ≤ 8 ∨ y ≥ s - 7)) then (5 : Int) else if v ≥ 7 ∧ ((x ≥ s - 11 ∧ x ≤ s - 9 ∧ y ≤ 5) ∨ (y ≥ s - 11 ∧ y ≤ s - 9 ∧ x ≤ 5)) then 6 else 1) = R
    have hd : (findP s x y l l).elim (-1) (fun p => farT x y p.1 p.2) ≥ 0 ↔ (findP s x y l l).isSome = true := by
      cases findP s x y l l with
      | none => simp
      | some p => simp [farT_nonneg]
    generalize (findP s x y l l).elim (-1) (fun p => farT x y p.1 p.2) = D at hd
    by_cases hs : (findP s x y l l).isSome = true
    · rw [if_pos hs, if_pos (hd.2 hs)]
    · rw [if_neg hs, if_neg (fun h => hs (hd.1 h))]
      repeat' split
      all_goals first | rfl | (exfalso; omega)
  · rfl
theorem cell_eq (v s : Int) (l : List Int) (x y : Int) (B : Bd s x y l) (k : Nat) (hk : 80 ≤ k) : qrlayout_frame_cell.f k v s l x y = some (cellT v s l x y) := by
  have h0 := B.s0; have h1 := B.s1
  unfold qrlayout_frame_cell.f cellT
  simp only [cj0 v s l x y k _ B hk, w64 (n := s - 8) (by omega), decide_eq_true_eq, Bool.false_eq_true, if_false, if_true]
  generalize (if (findP s x y l l).isSome = true then (4 : Int) else _) = R
  repeat' split
  all_goals first | rfl | (exfalso; omega)
theorem pj3 (v s : Int) (x y : Int) (k : Nat) (f : Bool) (h0 : 21 ≤ s) (h1 : s ≤ 177) (hv : s = 17 + 4 * v) : barscanref20_purpose.j3 (k + 1) s x y f = some (if f = true then 5 else if v ≥ 7 ∧ ((x ≥ s - 11 ∧ x ≤ s - 9 ∧ y ≤ 5) ∨ (y ≥ s - 11 ∧ y ≤ s - 9 ∧ x ≤ 5)) then 6 else 1) := by
  rw [barscanref20_purpose.j3, w64 (n := s - 11) (by omega), w64 (n := s - 9) (by omega)]
  cases f
  · simp only [Bool.false_eq_true, if_false]
    repeat' split
    all_goals first | rfl | (exfalso; omega)
  · rfl
theorem pj2 (v s : Int) (x y : Int) (k : Nat) (f : Bool) (h0 : 21 ≤ s) (h1 : s ≤ 177) (hv : s = 17 + 4 * v) : barscanref20_purpose.j2 (k + 2) s x y f = some (if f = true then 7 else if (y = 8 ∧ (x ≤ 8 ∨ x ≥ s - 8)) ∨ (x = 8 ∧ (y ≤ 8 ∨ y ≥ s - 7)) then 5 else if v ≥ 7 ∧ ((x ≥ s - 11 ∧ x ≤ s - 9 ∧ y ≤ 5) ∨ (y ≥ s - 11 ∧ y ≤ s - 9 ∧ x ≤ 5)) then 6 else 1) := by
  rw [barscanref20_purpose.j2, w64 (n := s - 8) (by omega), w64 (n := s - 7) (by omega)]
  simp only [pj3 v s x y k _ h0 h1 hv]
  cases f
  · simp only [Bool.false_eq_true, if_false, if_true, decide_eq_true_eq]
    generalize (if v ≥ 7 ∧ ((x ≥ s - 11 ∧ x ≤ s - 9 ∧ y ≤ 5) ∨ (y ≥ s - 11 ∧ y ≤ s - 9 ∧ x ≤ 5)) then (6 : Int) else 1) = R
    repeat' split
    all_goals first | rfl | (exfalso; omega)
  · rfl
theorem pj0 (v s : Int) (x y : Int) (k : Nat) (f g : Bool) (h0 : 21 ≤ s) (h1 : s ≤ 177) (hv : s = 17 + 4 * v) : barscanref20_purpose.j0 (k + 4) s x y g f = some (if f = true then 2 else if g = true then 4
  else if x = 6 ∨ y = 6 then 3
  else if x = 8 ∧ y = s - 8 then 7
  else if (y = 8 ∧ (x ≤ 8 ∨ x ≥ s - 8)) ∨ (x = 8 ∧ (y ≤ 8 ∨ y ≥ s - 7)) then 5
  else if v ≥ 7 ∧ ((x ≥ s - 11 ∧ x ≤ s - 9 ∧ y ≤ 5) ∨ (y ≥ s - 11 ∧ y ≤ s - 9 ∧ x ≤ 5)) then 6
  else 1) := by
  rw [show k + 4 = (k + 3) + 1 by omega, barscanref20_purpose.j0]
  simp only [show k + 3 = (k + 2) + 1 by omega, barscanref20_purpose.j1, w64 (n := s - 8) (by omega), pj2 v s x y k _ h0 h1 hv]
  cases f
  · cases g
    · simp only [Bool.false_eq_true, if_false, if_true, decide_eq_true_eq, beq_iff_eq]
      generalize (if (y = 8 ∧ (x ≤ 8 ∨ x ≥ s - 8)) ∨ (x = 8 ∧ (y ≤ 8 ∨ y ≥ s - 7)) then (5 : Int) else if v ≥ 7 ∧ ((x ≥ s - 11 ∧ x ≤ s - 9 ∧ y ≤ 5) ∨ (y ≥ s - 11 ∧ y ≤ s - 9 ∧ x ≤ 5)) then 6 else 1) = R
      repeat' split
      all_goals first | rfl | (exfalso; omega)
    · rfl
  · rfl
theorem purpose_eq (v s : Int) (l : List Int) (x y : Int) (B : Bd s x y l) (hv : s = 17 + 4 * v) (k : Nat) (hk : 80 ≤ k) : barscanref20_purpose.f k l s x y = some (cellT v s l x y) := by
  have h0 := B.s0; have h1 := B.s1
  obtain ⟨k, rfl⟩ : ∃ k', k = k' + 4 := ⟨k - 4, by omega⟩
  unfold barscanref20_purpose.f cellT
  rw [aligned_eq B (k + 4) (by omega), Option.bind_some]
  have hg : ((findP s x y l l).elim (0, 0, false) (fun p => (p.1, p.2, true)) : Int × Int × Bool).2.2 = (findP s x y l l).isSome := by cases findP s x y l l <;> rfl
  simp only [hg, pj0 v s x y k _ _ h0 h1 hv, w64 (n := s - 8) (by omega), decide_eq_true_eq, Bool.false_eq_true, if_false, if_true]
  generalize (if (findP s x y l l).isSome = true then (4 : Int) else _) = R
  repeat' split
  all_goals first | rfl | (exfalso; omega)

theorem al_ref : ∀ v : Fin 40, barscanref17_Aligns.f 100 ((v.val + 1 : Nat) : Int) = some (alg ((v.val + 1 : Nat) : Int), 0) := by decide +kernel
theorem al_ok : ∀ v : Fin 40, (alg ((v.val + 1 : Nat) : Int)).length ≤ 7 ∧ ∀ e ∈ alg ((v.val + 1 : Nat) : Int), 6 ≤ e ∧ e ≤ 177 := by decide +kernel
theorem of_fin {v : Int} (h : 1 ≤ v ∧ v ≤ 40) : ∃ i : Fin 40, v = ((i.val + 1 : Nat) : Int) := ⟨⟨(v - 1).toNat, by omega⟩, by simp; omega⟩
theorem mono_le {α : Type} {f : Nat → Option α} (h : ∀ k, LeO (f k) (f (k + 1))) {k k' : Nat} {r : α} (hk : k ≤ k') (hf : f k = some r) : f k' = some r := by
  induction hk with
  | refl => exact hf
  | step _ ih => exact h _ _ ih
theorem refAligns {v : Int} (h : 1 ≤ v ∧ v ≤ 40) (k : Nat) (hk : 100 ≤ k) : barscanref17_Aligns.f k v = some (alg v, 0) := by
  obtain ⟨i, rfl⟩ := of_fin h
  exact mono_le (f := fun k => barscanref17_Aligns.f k _) (fun k => barscanref17_Aligns.mono _ k) hk (al_ref i)
theorem bd_of {v x y : Int} (h : 1 ≤ v ∧ v ≤ 40) (hx : -1000 ≤ x ∧ x ≤ 1000) (hy : -1000 ≤ y ∧ y ≤ 1000) : Bd (17 + 4 * v) x y (alg v) := by
  obtain ⟨i, rfl⟩ := of_fin h
  have := al_ok i
  exact ⟨by omega, by omega, hx.1, hx.2, hy.1, hy.2, this.2, this.1⟩
theorem valid_yes {v : Int} (h : 1 ≤ v ∧ v ≤ 40) : qrversion_valid.f v = some true := by rw [valid_of, decide_eq_true h]
theorem frame_yes {v : Int} (h : 1 ≤ v ∧ v ≤ 40) (k : Nat) : qrlayout_frameOf.f k v = some (v, 17 + 4 * v, alg v, 0) := by
  unfold qrlayout_frameOf.f qrversion_Size.f qrversion_Aligns.f
  rw [valid_yes h, w64 (n := 4 * v) (by omega), w64 (n := 17 + 4 * v) (by omega)]
  simp [h]
theorem size_yes {v : Int} (h : 1 ≤ v ∧ v ≤ 40) : barscanref17_Size.f v = some (17 + 4 * v, 0) := by
  unfold barscanref17_Size.f
  rw [if_neg (by omega), if_neg (by omega), w64 (n := 4 * v) (by omega), w64 (n := 17 + 4 * v) (by omega)]
theorem size_no {v : Int} (h : ¬ (1 ≤ v ∧ v ≤ 40)) : barscanref17_Size.f v = some (0, 14) := by
  unfold barscanref17_Size.f
  split
  · rfl
  · rw [if_pos (by omega)]
end Go.Proofs.Ytbbnagjfjgkgjaa.Pure
