/- The modules of each purpose, counted: the count in natural numbers is the count of the purposes. -/
import Derived.Test.YtbbnagjfjgkgjaaK7Cna
namespace Go.Proofs.Ytbbnagjfjgkgjaa.Pure
open Go.RowKit Go.Proofs.Ytbbnagjfjgkgjaa.L Go.Proofs.YtbbnagjfjgkgjaaW.PrintWords Go.Proofs.YtbbnagjfjgkgjaaW.PrintLast Go.Proofs.YtbbnagjfjgkgjaaW.PrintMore
set_option linter.unusedVariables false
set_option linter.unusedSimpArgs false

def algN (v : Nat) : List Nat := (alg (v : Int)).map Int.toNat
theorem rowF_some {s x y a : Int} : ∀ {q : List Int}, (rowF s x y a q).isSome = true ↔ ∃ b ∈ q, hit s x y a b = true
  | [] => by simp [rowF]
  | b :: q => by
    unfold rowF
    by_cases h : hit s x y a b = true
    · rw [if_pos h]; simp [h]
    · rw [if_neg h, rowF_some]; simp [h]
theorem findP_some {s x y : Int} {l : List Int} : ∀ {q : List Int}, (findP s x y l q).isSome = true ↔ ∃ a ∈ q, ∃ b ∈ l, hit s x y a b = true
  | [] => by simp [findP]
  | a :: q => by
    unfold findP
    cases hr : rowF s x y a l with
    | some b =>
      have := (rowF_some (s := s) (x := x) (y := y) (a := a) (q := l)).1 (by rw [hr]; rfl)
      simp only [Option.elim, Option.isSome_some, List.mem_cons, exists_eq_or_imp, true_iff]
      exact .inl this
    | none =>
      have hn : ¬ ∃ b ∈ l, hit s x y a b = true := fun h => by
        have := (rowF_some (s := s) (x := x) (y := y) (a := a) (q := l)).2 h
        rw [hr] at this; cases this
      simp only [Option.elim, List.mem_cons, exists_eq_or_imp]
      rw [findP_some]
      exact ⟨.inr, fun h => h.resolve_left hn⟩
theorem hit_nat (s x y a b : Nat) (hs : 21 ≤ s) (ha : 6 ≤ a) (hb : 6 ≤ b) : hit (s : Int) (x : Int) (y : Int) (a : Int) (b : Int) = decide ((a ≤ x + 2 ∧ x ≤ a + 2) ∧ (b ≤ y + 2 ∧ y ≤ b + 2) ∧ ¬ ((a = 6 ∧ (b = 6 ∨ b = s - 7)) ∨ (b = 6 ∧ a = s - 7))) := by
  unfold hit farT mx mn
  rw [decide_eq_decide]
  repeat' split
  all_goals omega
theorem alN_iff (s x b : Nat) : ∀ l : List Nat, alN s x b l = true ↔ ∃ a ∈ l, (a ≤ x + 2 ∧ x ≤ a + 2) ∧ ¬ ((a = 6 ∧ (b = 6 ∨ b = s - 7)) ∨ (b = 6 ∧ a = s - 7))
  | [] => by simp [alN]
  | a :: l => by
    unfold alN
    rw [Bool.or_eq_true, alN_iff s x b l]
    have e : (Nat.ble a (x + 2) && Nat.ble x (a + 2) && !((Nat.beq a 6 && (Nat.beq b 6 || Nat.beq b (s - 7))) || (Nat.beq b 6 && Nat.beq a (s - 7)))) = true ↔ ((a ≤ x + 2 ∧ x ≤ a + 2) ∧ ¬ ((a = 6 ∧ (b = 6 ∨ b = s - 7)) ∨ (b = 6 ∧ a = s - 7))) := by
      rw [Bool.and_eq_true, Bool.and_eq_true, Nat.ble_eq, Nat.ble_eq, Bool.not_eq_true', ← Bool.not_eq_true, Bool.or_eq_true, Bool.and_eq_true, Bool.and_eq_true, Bool.or_eq_true, Nat.beq_eq, Nat.beq_eq, Nat.beq_eq, Nat.beq_eq]
    rw [e]
    simp only [List.mem_cons, exists_eq_or_imp]
theorem nearN_zero (y : Nat) : ∀ l : List Nat, (∀ b ∈ l, 6 ≤ b) → (nearN y l = 0 ↔ ∀ b ∈ l, ¬ (b ≤ y + 2 ∧ y ≤ b + 2))
  | [], _ => by simp [nearN]
  | b :: l, h => by
    have ih := nearN_zero y l (fun c hc => h c (List.mem_cons_of_mem _ hc))
    have hb := h b List.mem_cons_self
    unfold nearN
    split
    · rename_i hh
      simp only [Bool.and_eq_true, Nat.ble_eq] at hh
      constructor
      · intro e; omega
      · intro e; exact absurd hh (e b List.mem_cons_self)
    · rename_i hh
      simp only [Bool.and_eq_true, Nat.ble_eq] at hh
      rw [ih]
      constructor
      · intro e c hc
        rcases List.mem_cons.1 hc with rfl | hc
        · exact hh
        · exact e c hc
      · intro e c hc
        exact e c (List.mem_cons_of_mem _ hc)
theorem nearN_mem (y : Nat) : ∀ l : List Nat, nearN y l ≠ 0 → nearN y l ∈ l ∧ nearN y l ≤ y + 2 ∧ y ≤ nearN y l + 2
  | [], h => by simp [nearN] at h
  | b :: l, h => by
    unfold nearN at h ⊢
    split at h
    · rename_i hh
      rw [if_pos hh]
      simp only [Bool.and_eq_true, Nat.ble_eq] at hh
      exact ⟨List.mem_cons_self, hh⟩
    · rename_i hh
      rw [if_neg hh]
      obtain ⟨h1, h2⟩ := nearN_mem y l h
      exact ⟨List.mem_cons_of_mem _ h1, h2⟩
theorem algN_ok : ∀ v : Fin 40, (algN (v.val + 1)).map (fun n : Nat => (n : Int)) = alg ((v.val + 1 : Nat) : Int) ∧ (∀ b ∈ algN (v.val + 1), 6 ≤ b) ∧ ∀ b ∈ algN (v.val + 1), ∀ c ∈ algN (v.val + 1), b ≠ c → b + 5 ≤ c ∨ c + 5 ≤ b := by decide +kernel
theorem algN_of {v : Nat} (h : 1 ≤ v ∧ v ≤ 40) : alg (v : Int) = (algN v).map (fun n : Nat => (n : Int)) ∧ (∀ b ∈ algN v, 6 ≤ b) ∧ ∀ b ∈ algN v, ∀ c ∈ algN v, b ≠ c → b + 5 ≤ c ∨ c + 5 ≤ b := by
  have := algN_ok ⟨v - 1, by omega⟩
  rw [show v - 1 + 1 = v by omega] at this
  exact ⟨this.1.symm, this.2⟩
theorem found_nat {v : Nat} (h : 1 ≤ v ∧ v ≤ 40) (x y : Nat) :
    (findP (17 + 4 * (v : Int)) (x : Int) (y : Int) (alg (v : Int)) (alg (v : Int))).isSome = cond (Nat.beq (nearN y (algN v)) 0) false (alN (17 + 4 * v) x (nearN y (algN v)) (algN v)) := by
  obtain ⟨e, h6, ha⟩ := algN_of h
  have hs : (17 + 4 * (v : Int)) = ((17 + 4 * v : Nat) : Int) := by omega
  rw [Bool.eq_iff_iff, findP_some, e, hs]
  have key : (∃ a ∈ (algN v).map (fun n : Nat => (n : Int)), ∃ b ∈ (algN v).map (fun n : Nat => (n : Int)), hit ((17 + 4 * v : Nat) : Int) (x : Int) (y : Int) a b = true) ↔
      ∃ a ∈ algN v, ∃ b ∈ algN v, (a ≤ x + 2 ∧ x ≤ a + 2) ∧ (b ≤ y + 2 ∧ y ≤ b + 2) ∧ ¬ ((a = 6 ∧ (b = 6 ∨ b = 17 + 4 * v - 7)) ∨ (b = 6 ∧ a = 17 + 4 * v - 7)) := by
    constructor
    · rintro ⟨a, hA, b, hB, hh⟩
      obtain ⟨a', kA, rfl⟩ := List.mem_map.1 hA
      obtain ⟨b', kB, rfl⟩ := List.mem_map.1 hB
      rw [hit_nat _ _ _ _ _ (by omega) (h6 a' kA) (h6 b' kB), decide_eq_true_eq] at hh
      exact ⟨a', kA, b', kB, hh⟩
    · rintro ⟨a, hA, b, hB, hh⟩
      refine ⟨_, List.mem_map_of_mem hA, _, List.mem_map_of_mem hB, ?_⟩
      rw [hit_nat _ _ _ _ _ (by omega) (h6 a hA) (h6 b hB), decide_eq_true_eq]
      exact hh
  rw [key]
  by_cases hz : nearN y (algN v) = 0
  · have := (nearN_zero y (algN v) h6).1 hz
    rw [hz]
    constructor
    · rintro ⟨a, hA, b, hB, _, hy, _⟩
      exact absurd hy (this b hB)
    · intro hh; cases hh
  · obtain ⟨m1, m2⟩ := nearN_mem y (algN v) hz
    have hz' : Nat.beq (nearN y (algN v)) 0 = false := by
      cases hq : Nat.beq (nearN y (algN v)) 0 with
      | false => rfl
      | true => exact absurd (Nat.eq_of_beq_eq_true hq) hz
    rw [hz', cond_false, alN_iff]
    constructor
    · rintro ⟨a, hA, b, hB, hx, hy, hc⟩
      have : b = nearN y (algN v) := by
        rcases Nat.decEq b (nearN y (algN v)) with hne | heq
        · have := ha b hB _ m1 hne
          omega
        · exact heq
      subst this
      exact ⟨a, hA, hx, hc⟩
    · rintro ⟨a, hA, hx, hc⟩
      exact ⟨a, hA, _, m1, hx, m2, hc⟩
theorem cond_if {α : Type} (b : Bool) (x y : α) : cond b x y = if b = true then x else y := by cases b <;> rfl
theorem cell_nat {v : Nat} (h : 1 ≤ v ∧ v ≤ 40) (x y : Nat) :
    cellT (v : Int) (17 + 4 * (v : Int)) (alg (v : Int)) (x : Int) (y : Int) = ((cellN v (17 + 4 * v) (nearN y (algN v)) (algN v) y x : Nat) : Int) := by
  unfold cellT cellN
  rw [found_nat h x y]
  generalize cond (Nat.beq (nearN y (algN v)) 0) false (alN (17 + 4 * v) x (nearN y (algN v)) (algN v)) = F
  have c1 : ((Nat.ble x 7 && Nat.ble y 7) || (Nat.ble (17 + 4 * v - 8) x && Nat.ble y 7) || (Nat.ble x 7 && Nat.ble (17 + 4 * v - 8) y)) = decide (((x : Int) < 8 ∧ (y : Int) < 8) ∨ ((x : Int) ≥ 17 + 4 * (v : Int) - 8 ∧ (y : Int) < 8) ∨ ((x : Int) < 8 ∧ (y : Int) ≥ 17 + 4 * (v : Int) - 8)) := by
    rw [Bool.eq_iff_iff]; simp only [Bool.and_eq_true, Bool.or_eq_true, Nat.ble_eq, decide_eq_true_eq]; omega
  have c3 : (Nat.beq x 6 || Nat.beq y 6) = decide ((x : Int) = 6 ∨ (y : Int) = 6) := by
    rw [Bool.eq_iff_iff]; simp only [Bool.or_eq_true, Nat.beq_eq, decide_eq_true_eq]; omega
  have c4 : (Nat.beq x 8 && Nat.beq y (17 + 4 * v - 8)) = decide ((x : Int) = 8 ∧ (y : Int) = 17 + 4 * (v : Int) - 8) := by
    rw [Bool.eq_iff_iff]; simp only [Bool.and_eq_true, Nat.beq_eq, decide_eq_true_eq]; omega
  have c5 : ((Nat.beq y 8 && (Nat.ble x 8 || Nat.ble (17 + 4 * v - 8) x)) || (Nat.beq x 8 && (Nat.ble y 8 || Nat.ble (17 + 4 * v - 7) y))) = decide (((y : Int) = 8 ∧ ((x : Int) ≤ 8 ∨ (x : Int) ≥ 17 + 4 * (v : Int) - 8)) ∨ ((x : Int) = 8 ∧ ((y : Int) ≤ 8 ∨ (y : Int) ≥ 17 + 4 * (v : Int) - 7))) := by
    rw [Bool.eq_iff_iff]; simp only [Bool.and_eq_true, Bool.or_eq_true, Nat.ble_eq, Nat.beq_eq, decide_eq_true_eq]; omega
  have c6 : (Nat.ble 7 v && ((Nat.ble (17 + 4 * v - 11) x && Nat.ble x (17 + 4 * v - 9) && Nat.ble y 5) || (Nat.ble (17 + 4 * v - 11) y && Nat.ble y (17 + 4 * v - 9) && Nat.ble x 5))) = decide ((v : Int) ≥ 7 ∧ (((x : Int) ≥ 17 + 4 * (v : Int) - 11 ∧ (x : Int) ≤ 17 + 4 * (v : Int) - 9 ∧ (y : Int) ≤ 5) ∨ ((y : Int) ≥ 17 + 4 * (v : Int) - 11 ∧ (y : Int) ≤ 17 + 4 * (v : Int) - 9 ∧ (x : Int) ≤ 5))) := by
    rw [Bool.eq_iff_iff]; simp only [Bool.and_eq_true, Bool.or_eq_true, Nat.ble_eq, decide_eq_true_eq]; omega
  rw [c1, c3, c4, c5, c6]
  simp only [cond_if, decide_eq_true_eq]
  repeat' split
  all_goals rfl

def pk : List Int → Nat
  | [] => 0
  | c :: l => 1000000 ^ c.toNat + pk l
theorem pk_app (a b : List Int) : pk (a ++ b) = pk a + pk b := by
  induction a with
  | nil => simp [pk]
  | cons c a ih => simp only [List.cons_append, pk, ih]; omega
theorem cellN_range (v s b : Nat) (l : List Nat) (y x : Nat) : 1 ≤ cellN v s b l y x ∧ cellN v s b l y x ≤ 7 := by
  unfold cellN
  simp only [cond_if]
  repeat' split
  all_goals omega
theorem pk_row {v : Nat} (h : 1 ≤ v ∧ v ≤ 40) (y : Nat) : ∀ n : Nat, pk ((List.range n).map fun x : Nat => cellT (v : Int) (17 + 4 * (v : Int)) (alg (v : Int)) (x : Int) (y : Int)) = rowN (cellN v (17 + 4 * v) (nearN y (algN v)) (algN v) y) n
  | 0 => rfl
  | n + 1 => by
    rw [List.range_succ, List.map_append, pk_app, pk_row h y n, rowN, List.map_cons, List.map_nil, pk, pk, cell_nat h, Int.toNat_natCast]
    omega
theorem sd_nat (v : Nat) : sd (v : Int) = 17 + 4 * v := by unfold sd; omega
theorem grid_row {v : Nat} (h : 1 ≤ v ∧ v ≤ 40) (y : Nat) : ∀ n : Nat, n ≤ 17 + 4 * v → gridL (v : Int) (y * (17 + 4 * v) + n) = gridL (v : Int) (y * (17 + 4 * v)) ++ (List.range n).map fun x : Nat => cellT (v : Int) (17 + 4 * (v : Int)) (alg (v : Int)) (x : Int) (y : Int)
  | 0, _ => by simp
  | n + 1, hn => by
    rw [← Nat.add_assoc, gridL_succ, grid_row h y n (by omega), List.range_succ, List.map_append, ← List.append_assoc, sd_nat]
    congr 1
    have e1 : (y * (17 + 4 * v) + n) % (17 + 4 * v) = n := by rw [Nat.mul_comm, Nat.mul_add_mod]; exact Nat.mod_eq_of_lt (by omega)
    have e2 : (y * (17 + 4 * v) + n) / (17 + 4 * v) = y := by rw [Nat.mul_comm, Nat.mul_add_div (by omega), Nat.div_eq_of_lt (by omega), Nat.add_zero]
    rw [e1, e2]
    rfl
theorem pk_grid {v : Nat} (h : 1 ≤ v ∧ v ≤ 40) : ∀ n : Nat, pk (gridL (v : Int) (n * (17 + 4 * v))) = allN v (17 + 4 * v) (algN v) n
  | 0 => by rw [Nat.zero_mul]; rfl
  | n + 1 => by
    rw [show (n + 1) * (17 + 4 * v) = n * (17 + 4 * v) + (17 + 4 * v) by rw [Nat.add_mul, Nat.one_mul], grid_row h n _ (Nat.le_refl _), pk_app, pk_grid h n, pk_row h, allN]
    omega
theorem grid_range {v : Nat} (h : 1 ≤ v ∧ v ≤ 40) (n : Nat) : ∀ c ∈ gridL (v : Int) n, 1 ≤ c ∧ c ≤ 7 := by
  intro c hc
  obtain ⟨i, hi, rfl⟩ := List.mem_map.1 hc
  have := cellN_range v (17 + 4 * v) (nearN (i / sd (v : Int)) (algN v)) (algN v) (i / sd (v : Int)) (i % sd (v : Int))
  rw [cell_nat h]
  omega
theorem pk_counts : ∀ l : List Int, (∀ c ∈ l, 1 ≤ c ∧ c ≤ 7) →
    pk l = l.count 1 * 1000000 + l.count 2 * 1000000 ^ 2 + l.count 3 * 1000000 ^ 3 + l.count 4 * 1000000 ^ 4 + l.count 5 * 1000000 ^ 5 + l.count 6 * 1000000 ^ 6 + l.count 7 * 1000000 ^ 7
  | [], _ => by simp [pk]
  | c :: l, h => by
    have ih := pk_counts l (fun d hd => h d (List.mem_cons_of_mem _ hd))
    have hc := h c List.mem_cons_self
    have : c = 1 ∨ c = 2 ∨ c = 3 ∨ c = 4 ∨ c = 5 ∨ c = 6 ∨ c = 7 := by omega
    rw [pk, ih]
    rcases this with rfl | rfl | rfl | rfl | rfl | rfl | rfl <;> simp [List.count_cons] <;> omega
theorem digits {a1 a2 a3 a4 a5 a6 a7 b1 b2 b3 b4 b5 b6 b7 : Nat} (h : a1 < 1000000 ∧ a2 < 1000000 ∧ a3 < 1000000 ∧ a4 < 1000000 ∧ a5 < 1000000 ∧ a6 < 1000000) (h' : b1 < 1000000 ∧ b2 < 1000000 ∧ b3 < 1000000 ∧ b4 < 1000000 ∧ b5 < 1000000 ∧ b6 < 1000000)
    (e : a1 * 1000000 + a2 * 1000000 ^ 2 + a3 * 1000000 ^ 3 + a4 * 1000000 ^ 4 + a5 * 1000000 ^ 5 + a6 * 1000000 ^ 6 + a7 * 1000000 ^ 7 = b1 * 1000000 + b2 * 1000000 ^ 2 + b3 * 1000000 ^ 3 + b4 * 1000000 ^ 4 + b5 * 1000000 ^ 5 + b6 * 1000000 ^ 6 + b7 * 1000000 ^ 7) :
    a1 = b1 ∧ a2 = b2 ∧ a3 = b3 ∧ a4 = b4 ∧ a5 = b5 ∧ a6 = b6 ∧ a7 = b7 := by
  omega
end Go.Proofs.Ytbbnagjfjgkgjaa.Pure
