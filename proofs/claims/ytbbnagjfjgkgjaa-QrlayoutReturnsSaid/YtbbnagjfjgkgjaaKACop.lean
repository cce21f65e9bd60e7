/- The modules of each purpose, counted: the count in natural numbers is the count of the purposes. -/
import Derived.Test.YtbbnagjfjgkgjaaKACne
import Derived.Test.YtbbnagjfjgkgjaaKALv0
import Derived.Test.YtbbnagjfjgkgjaaKAPureQrlayoutCells
namespace Go.Proofs.Ytbbnagjfjgkgjaa.Pure
open Go.RowKit Go.Proofs.Ytbbnagjfjgkgjaa.L Go.Proofs.YtbbnagjfjgkgjaaW.PrintWords Go.Proofs.YtbbnagjfjgkgjaaW.PrintLast Go.Proofs.YtbbnagjfjgkgjaaW.PrintMore
set_option linter.unusedVariables false
set_option linter.unusedSimpArgs false

def algN (v : Nat) : List Nat := (alg (v : Int)).map Int.toNat
theorem rowF_some {s x y a : Int} : ∀ {q : List Int}, (rowF s x y a q).isSome = true ↔ ∃ b ∈ q, hit s x y a b = true
  | [] => by simp [rowF]
  | b :: q => by
    unfold rowF
    by_cases h : hit s x y a b = true
    · rw [if_pos h]; simp [h]
    · rw [if_neg h, rowF_some]; simp [h]
theorem findP_some {s x y : Int} {l : List Int} : ∀ {q : List Int}, (findP s x y l q).isSome = true ↔ ∃ a ∈ q, ∃ b ∈ l, hit s x y a b = true
  | [] => by simp [findP]
  | a :: q => by
    unfold findP
    cases hr : rowF s x y a l with
    | some b =>
      have := (rowF_some (s := s) (x := x) (y := y) (a := a) (q := l)).1 (by rw [hr]; rfl)
      simp only [Option.elim, Option.isSome_some, List.mem_cons, exists_eq_or_imp, true_iff]
      exact .inl this
    | none =>
      have hn : ¬ ∃ b ∈ l, hit s x y a b = true := fun h => by
        have := (rowF_some (s := s) (x := x) (y := y) (a := a) (q := l)).2 h
        rw [hr] at this; cases this
      simp only [Option.elim, List.mem_cons, exists_eq_or_imp]
      rw [findP_some]
      exact ⟨.inr, fun h => h.resolve_left hn⟩
theorem hit_nat (s x y a b : Nat) (hs : 21 ≤ s) (ha : 6 ≤ a) (hb : 6 ≤ b) : hit (s : Int) (x : Int) (y : Int) (a : Int) (b : Int) = decide ((a ≤ x + 2 ∧ x ≤ a + 2) ∧ (b ≤ y + 2 ∧ y ≤ b + 2) ∧ ¬ ((a = 6 ∧ (b = 6 ∨ b = s - 7)) ∨ (b = 6 ∧ a = s - 7))) := by
  unfold hit farT mx mn
  rw [decide_eq_decide]
  repeat' split
  all_goals omega
theorem alN_iff (s x b : Nat) : ∀ l : List Nat, alN s x b l = true ↔ ∃ a ∈ l, (a ≤ x + 2 ∧ x ≤ a + 2) ∧ ¬ ((a = 6 ∧ (b = 6 ∨ b = s - 7)) ∨ (b = 6 ∧ a = s - 7))
  | [] => by simp [alN]
  | a :: l => by
    unfold alN
    rw [Bool.or_eq_true, alN_iff s x b l]
    have e : (Nat.ble a (x + 2) && Nat.ble x (a + 2) && !((Nat.beq a 6 && (Nat.beq b 6 || Nat.beq b (s - 7))) || (Nat.beq b 6 && Nat.beq a (s - 7)))) = true ↔ ((a ≤ x + 2 ∧ x ≤ a + 2) ∧ ¬ ((a = 6 ∧ (b = 6 ∨ b = s - 7)) ∨ (b = 6 ∧ a = s - 7))) := by
      rw [Bool.and_eq_true, Bool.and_eq_true, Nat.ble_eq, Nat.ble_eq, Bool.not_eq_true', ← Bool.not_eq_true, Bool.or_eq_true, Bool.and_eq_true, Bool.and_eq_true, Bool.or_eq_true, Nat.beq_eq, Nat.beq_eq, Nat.beq_eq, Nat.beq_eq]
    rw [e]
    simp only [List.mem_cons, exists_eq_or_imp]
theorem nearN_zero (y : Nat) : ∀ l : List Nat, (∀ b ∈ l, 6 ≤ b) → (nearN y l = 0 ↔ ∀ b ∈ l, ¬ (b ≤ y + 2 ∧ y ≤ b + 2))
  | [], _ => by simp [nearN]
  | b :: l, h => by
    have ih := nearN_zero y l (fun c hc => h c (List.mem_cons_of_mem _ hc))
    have hb := h b List.mem_cons_self
    unfold nearN
    split
    · rename_i hh
      simp only [Bool.and_eq_true, Nat.ble_eq] at hh
      constructor
      · intro e; omega
      · intro e; exact absurd hh (e b List.mem_cons_self)
    · rename_i hh
      simp only [Bool.and_eq_true, Nat.ble_eq] at hh
      rw [ih]
      constructor
      · intro e c hc
        rcases List.mem_cons.1 hc with rfl | hc
        · exact hh
        · exact e c hc
      · intro e c hc
        exact e c (List.mem_cons_of_mem _ hc)
theorem nearN_mem (y : Nat) : ∀ l : List Nat, nearN y l ≠ 0 → nearN y l ∈ l ∧ nearN y l ≤ y + 2 ∧ y ≤ nearN y l + 2
  | [], h => by simp [nearN] at h
  | b :: l, h => by
    unfold nearN at h ⊢
    split at h
    · rename_i hh
      rw [if_pos hh]
      simp only [Bool.and_eq_true, Nat.ble_eq] at hh
      exact ⟨List.mem_cons_self, hh⟩
    · rename_i hh
      rw [if_neg hh]
      obtain ⟨h1, h2⟩ := nearN_mem y l h
      exact ⟨List.mem_cons_of_mem _ h1, h2⟩
theorem algN_ok : ∀ v : Fin 40, (algN (v.val + 1)).map (fun n : Nat => (n : Int)) = alg ((v.val + 1 : Nat) : Int) ∧ (∀ b ∈ algN (v.val + 1), 6 ≤ b) ∧ ∀ b ∈ algN (v.val + 1), ∀ c ∈ algN (v.val + 1), b ≠ c → b + 5 ≤ c ∨ c + 5 ≤ b := by decide +kernel
theorem algN_of {v : Nat} (h : 1 ≤ v ∧ v ≤ 40) : alg (v : Int) = (algN v).map (fun n : Nat => (n : Int)) ∧ (∀ b ∈ algN v, 6 ≤ b) ∧ ∀ b ∈ algN v, ∀ c ∈ algN v, b ≠ c → b + 5 ≤ c ∨ c + 5 ≤ b := by
  have := algN_ok ⟨v - 1, by omega⟩
  rw [show v - 1 + 1 = v by omega] at this
  exact ⟨this.1.symm, this.2⟩
theorem found_nat {v : Nat} (h : 1 ≤ v ∧ v ≤ 40) (x y : Nat) :
    (findP (17 + 4 * (v : Int)) (x : Int) (y : Int) (alg (v : Int)) (alg (v : Int))).isSome = cond (Nat.beq (nearN y (algN v)) 0) false (alN (17 + 4 * v) x (nearN y (algN v)) (algN v)) := by
  obtain ⟨e, h6, ha⟩ := algN_of h
  have hs : (17 + 4 * (v : Int)) = ((17 + 4 * v : Nat) : Int) := by omega
  rw [Bool.eq_iff_iff, findP_some, e, hs]
  have key : (∃ a ∈ (algN v).map (fun n : Nat => (n : Int)), ∃ b ∈ (algN v).map (fun n : Nat => (n : Int)), hit ((17 + 4 * v : Nat) : Int) (x : Int) (y : Int) a b = true) ↔
      ∃ a ∈ algN v, ∃ b ∈ algN v, (a ≤ x + 2 ∧ x ≤ a + 2) ∧ (b ≤ y + 2 ∧ y ≤ b + 2) ∧ ¬ ((a = 6 ∧ (b = 6 ∨ b = 17 + 4 * v - 7)) ∨ (b = 6 ∧ a = 17 + 4 * v - 7)) := by
    constructor
    · rintro ⟨a, hA, b, hB, hh⟩
      obtain ⟨a', kA, rfl⟩ := List.mem_map.1 hA
      obtain ⟨b', kB, rfl⟩ := List.mem_map.1 hB
      rw [hit_nat _ _ _ _ _ (by omega) (h6 a' kA) (h6 b' kB), decide_eq_true_eq] at hh
      exact ⟨a', kA, b', kB, hh⟩
    · rintro ⟨a, hA, b, hB, hh⟩
      refine ⟨_, List.mem_map_of_mem hA, _, List.mem_map_of_mem hB, ?_⟩
      rw [hit_nat _ _ _ _ _ (by omega) (h6 a hA) (h6 b hB), decide_eq_true_eq]
      exact hh
  rw [key]
  by_cases hz : nearN y (algN v) = 0
  · have := (nearN_zero y (algN v) h6).1 hz
    rw [hz]
    constructor
    · rintro ⟨a, hA, b, hB, _, hy, _⟩
      exact absurd hy (this b hB)
    · intro hh; cases hh
  · obtain ⟨m1, m2⟩ := nearN_mem y (algN v) hz
    have hz' : Nat.beq (nearN y (algN v)) 0 = false := by
      cases hq : Nat.beq (nearN y (algN v)) 0 with
      | false => rfl
      | true => exact absurd (Nat.eq_of_beq_eq_true hq) hz
    rw [hz', cond_false, alN_iff]
    constructor
    · rintro ⟨a, hA, b, hB, hx, hy, hc⟩
      have : b = nearN y (algN v) := by
        rcases Nat.decEq b (nearN y (algN v)) with hne | heq
        · have := ha b hB _ m1 hne
          omega
        · exact heq
      subst this
      exact ⟨a, hA, hx, hc⟩
    · rintro ⟨a, hA, hx, hc⟩
      exact ⟨a, hA, _, m1, hx, m2, hc⟩
theorem cond_if {α : Type} (b : Bool) (x y : α) : cond b x y = if b = true then x else y := by cases b <;> rfl
theorem cell_nat {v : Nat} (h : 1 ≤ v ∧ v ≤ 40) (x y : Nat) :
    cellT (v : Int) (17 + 4 * (v : Int)) (alg (v : Int)) (x : Int) (y : Int) = ((cellN v (17 + 4 * v) (nearN y (algN v)) (algN v) y x : Nat) : Int) := by
  unfold cellT cellN
  rw [found_nat h x y]
  generalize cond (Nat.beq (nearN y (algN v)) 0) false (alN (17 + 4 * v) x (nearN y (algN v)) (algN v)) = F
  have c1 : ((Nat.ble x 7 && Nat.ble y 7) || (Nat.ble (17 + 4 * v - 8) x && Nat.ble y 7) || (Nat.ble x 7 && Nat.ble (17 + 4 * v - 8) y)) = decide (((x : Int) < 8 ∧ (y : Int) < 8) ∨ ((x : Int) ≥ 17 + 4 * (v : Int) - 8 ∧ (y : Int) < 8) ∨ ((x : Int) < 8 ∧ (y : Int) ≥ 17 + 4 * (v : Int) - 8)) := by
    rw [Bool.eq_iff_iff]; simp only [Bool.and_eq_true, Bool.or_eq_true, Nat.ble_eq, decide_eq_true_eq]; omega
  have c3 : (Nat.beq x 6 || Nat.beq y 6) = decide ((x : Int) = 6 ∨ (y : Int) = 6) := by
    rw [Bool.eq_iff_iff]; simp only [Bool.or_eq_true, Nat.beq_eq, decide_eq_true_eq]; omega
  have c4 : (Nat.beq x 8 && Nat.beq y (17 + 4 * v - 8)) = decide ((x : Int) = 8 ∧ (y : Int) = 17 + 4 * (v : Int) - 8) := by
    rw [Bool.eq_iff_iff]; simp only [Bool.and_eq_true, Nat.beq_eq, decide_eq_true_eq]; omega
  have c5 : ((Nat.beq y 8 && (Nat.ble x 8 || Nat.ble (17 + 4 * v - 8) x)) || (Nat.beq x 8 && (Nat.ble y 8 || Nat.ble (17 + 4 * v - 7) y))) = decide (((y : Int) = 8 ∧ ((x : Int) ≤ 8 ∨ (x : Int) ≥ 17 + 4 * (v : Int) - 8)) ∨ ((x : Int) = 8 ∧ ((y : Int) ≤ 8 ∨ (y : Int) ≥ 17 + 4 * (v : Int) - 7))) := by
    rw [Bool.eq_iff_iff]; simp only [Bool.and_eq_true, Bool.or_eq_true, Nat.ble_eq, Nat.beq_eq, decide_eq_true_eq]; omega
  have c6 : (Nat.ble 7 v && ((Nat.ble (17 + 4 * v - 11) x && Nat.ble x (17 + 4 * v - 9) && Nat.ble y 5) || (Nat.ble (17 + 4 * v - 11) y && Nat.ble y (17 + 4 * v - 9) && Nat.ble x 5))) = decide ((v : Int) ≥ 7 ∧ (((x : Int) ≥ 17 + 4 * (v : Int) - 11 ∧ (x : Int) ≤ 17 + 4 * (v : Int) - 9 ∧ (y : Int) ≤ 5) ∨ ((y : Int) ≥ 17 + 4 * (v : Int) - 11 ∧ (y : Int) ≤ 17 + 4 * (v : Int) - 9 ∧ (x : Int) ≤ 5))) := by
    rw [Bool.eq_iff_iff]; simp only [Bool.and_eq_true, Bool.or_eq_true, Nat.ble_eq, decide_eq_true_eq]; omega
  rw [c1, c3, c4, c5, c6]
  simp only [cond_if, decide_eq_true_eq]
  repeat' split
  all_goals rfl

def pk : List Int → Nat
  | [] => 0
  | c :: l => 1000000 ^ c.toNat + pk l
theorem pk_app (a b : List Int) : pk (a ++ b) = pk a + pk b := by
  induction a with
  | nil => simp [pk]
  | cons c a ih => simp only [List.cons_append, pk, ih]; omega
theorem cellN_range (v s b : Nat) (l : List Nat) (y x : Nat) : 1 ≤ cellN v s b l y x ∧ cellN v s b l y x ≤ 7 := by
  unfold cellN
  simp only [cond_if]
  repeat' split
  all_goals omega
theorem pk_row {v : Nat} (h : 1 ≤ v ∧ v ≤ 40) (y : Nat) : ∀ n : Nat, pk ((List.range n).map fun x : Nat => cellT (v : Int) (17 + 4 * (v : Int)) (alg (v : Int)) (x : Int) (y : Int)) = rowN (cellN v (17 + 4 * v) (nearN y (algN v)) (algN v) y) n
  | 0 => rfl
  | n + 1 => by
    rw [List.range_succ, List.map_append, pk_app, pk_row h y n, rowN, List.map_cons, List.map_nil, pk, pk, cell_nat h, Int.toNat_natCast]
    omega
theorem sd_nat (v : Nat) : sd (v : Int) = 17 + 4 * v := by unfold sd; omega
theorem grid_row {v : Nat} (h : 1 ≤ v ∧ v ≤ 40) (y : Nat) : ∀ n : Nat, n ≤ 17 + 4 * v → gridL (v : Int) (y * (17 + 4 * v) + n) = gridL (v : Int) (y * (17 + 4 * v)) ++ (List.range n).map fun x : Nat => cellT (v : Int) (17 + 4 * (v : Int)) (alg (v : Int)) (x : Int) (y : Int)
  | 0, _ => by simp
  | n + 1, hn => by
    rw [← Nat.add_assoc, gridL_succ, grid_row h y n (by omega), List.range_succ, List.map_append, ← List.append_assoc, sd_nat]
    congr 1
    have e1 : (y * (17 + 4 * v) + n) % (17 + 4 * v) = n := by rw [Nat.mul_comm, Nat.mul_add_mod]; exact Nat.mod_eq_of_lt (by omega)
    have e2 : (y * (17 + 4 * v) + n) / (17 + 4 * v) = y := by rw [Nat.mul_comm, Nat.mul_add_div (by omega), Nat.div_eq_of_lt (by omega), Nat.add_zero]
    rw [e1, e2]
    rfl
theorem pk_grid {v : Nat} (h : 1 ≤ v ∧ v ≤ 40) : ∀ n : Nat, pk (gridL (v : Int) (n * (17 + 4 * v))) = allN v (17 + 4 * v) (algN v) n
  | 0 => by rw [Nat.zero_mul]; rfl
  | n + 1 => by
    rw [show (n + 1) * (17 + 4 * v) = n * (17 + 4 * v) + (17 + 4 * v) by rw [Nat.add_mul, Nat.one_mul], grid_row h n _ (Nat.le_refl _), pk_app, pk_grid h n, pk_row h, allN]
    omega
theorem grid_range {v : Nat} (h : 1 ≤ v ∧ v ≤ 40) (n : Nat) : ∀ c ∈ gridL (v : Int) n, 1 ≤ c ∧ c ≤ 7 := by
  intro c hc
  obtain ⟨i, hi, rfl⟩ := List.mem_map.1 hc
  have := cellN_range v (17 + 4 * v) (nearN (i / sd (v : Int)) (algN v)) (algN v) (i / sd (v : Int)) (i % sd (v : Int))
  rw [cell_nat h]
  omega
theorem pk_counts : ∀ l : List Int, (∀ c ∈ l, 1 ≤ c ∧ c ≤ 7) →
    pk l = l.count 1 * 1000000 + l.count 2 * 1000000 ^ 2 + l.count 3 * 1000000 ^ 3 + l.count 4 * 1000000 ^ 4 + l.count 5 * 1000000 ^ 5 + l.count 6 * 1000000 ^ 6 + l.count 7 * 1000000 ^ 7
  | [], _ => by simp [pk]
  | c :: l, h => by
    have ih := pk_counts l (fun d hd => h d (List.mem_cons_of_mem _ hd))
    have hc := h c List.mem_cons_self
    have : c = 1 ∨ c = 2 ∨ c = 3 ∨ c = 4 ∨ c = 5 ∨ c = 6 ∨ c = 7 := by omega
    rw [pk, ih]
    rcases this with rfl | rfl | rfl | rfl | rfl | rfl | rfl <;> simp [List.count_cons] <;> omega
theorem digits {a1 a2 a3 a4 a5 a6 a7 b1 b2 b3 b4 b5 b6 b7 : Nat} (h : a1 < 1000000 ∧ a2 < 1000000 ∧ a3 < 1000000 ∧ a4 < 1000000 ∧ a5 < 1000000 ∧ a6 < 1000000) (h' : b1 < 1000000 ∧ b2 < 1000000 ∧ b3 < 1000000 ∧ b4 < 1000000 ∧ b5 < 1000000 ∧ b6 < 1000000)
    (e : a1 * 1000000 + a2 * 1000000 ^ 2 + a3 * 1000000 ^ 3 + a4 * 1000000 ^ 4 + a5 * 1000000 ^ 5 + a6 * 1000000 ^ 6 + a7 * 1000000 ^ 7 = b1 * 1000000 + b2 * 1000000 ^ 2 + b3 * 1000000 ^ 3 + b4 * 1000000 ^ 4 + b5 * 1000000 ^ 5 + b6 * 1000000 ^ 6 + b7 * 1000000 ^ 7) :
    a1 = b1 ∧ a2 = b2 ∧ a3 = b3 ∧ a4 = b4 ∧ a5 = b5 ∧ a6 = b6 ∧ a7 = b7 := by
  omega
end Go.Proofs.Ytbbnagjfjgkgjaa.Pure

/- The numbers of modules of each purpose, for each version. -/
namespace Go.Proofs.Ytbbnagjfjgkgjaa.Pure
open Go.RowKit Go.Proofs.Ytbbnagjfjgkgjaa.L Go.Proofs.YtbbnagjfjgkgjaaW.PrintWords Go.Proofs.YtbbnagjfjgkgjaaW.PrintLast Go.Proofs.YtbbnagjfjgkgjaaW.PrintMore
set_option linter.unusedVariables false
set_option linter.unusedSimpArgs false

def numT : List Nat := [1000000000030000000000010000192000208000000, 1000000000030000025000018000192000359000000, 1000000000030000025000026000192000567000000, 1000000000030000025000034000192000807000000, 1000000000030000025000042000192001079000000, 1000000000030000025000050000192001383000000, 1000036000030000150000048000192001568000000, 1000036000030000150000056000192001936000000, 1000036000030000150000064000192002336000000, 1000036000030000150000072000192002768000000, 1000036000030000150000080000192003232000000, 1000036000030000150000088000192003728000000, 1000036000030000150000096000192004256000000, 1000036000030000325000094000192004651000000, 1000036000030000325000102000192005243000000, 1000036000030000325000110000192005867000000, 1000036000030000325000118000192006523000000, 1000036000030000325000126000192007211000000, 1000036000030000325000134000192007931000000, 1000036000030000325000142000192008683000000, 1000036000030000550000140000192009252000000, 1000036000030000550000148000192010068000000, 1000036000030000550000156000192010916000000, 1000036000030000550000164000192011796000000, 1000036000030000550000172000192012708000000, 1000036000030000550000180000192013652000000, 1000036000030000550000188000192014628000000, 1000036000030000825000186000192015371000000, 1000036000030000825000194000192016411000000, 1000036000030000825000202000192017483000000, 1000036000030000825000210000192018587000000, 1000036000030000825000218000192019723000000, 1000036000030000825000226000192020891000000, 1000036000030000825000234000192022091000000, 1000036000030001150000232000192023008000000, 1000036000030001150000240000192024272000000, 1000036000030001150000248000192025568000000, 1000036000030001150000256000192026896000000, 1000036000030001150000264000192028256000000, 1000036000030001150000272000192029648000000]
theorem cntA1 : allN 1 21 (algN 1) 21 = numT.getD 0 0 := by rw [show algN 1 = [] from by decide +kernel, Nat.eq_of_beq_eq_true cnt1]; rfl
theorem cntA2 : allN 2 25 (algN 2) 25 = numT.getD 1 0 := by rw [show algN 2 = [6, 18] from by decide +kernel, Nat.eq_of_beq_eq_true cnt2]; rfl
theorem cntA3 : allN 3 29 (algN 3) 29 = numT.getD 2 0 := by rw [show algN 3 = [6, 22] from by decide +kernel, Nat.eq_of_beq_eq_true cnt3]; rfl
theorem cntA4 : allN 4 33 (algN 4) 33 = numT.getD 3 0 := by rw [show algN 4 = [6, 26] from by decide +kernel, Nat.eq_of_beq_eq_true cnt4]; rfl
theorem cntA5 : allN 5 37 (algN 5) 37 = numT.getD 4 0 := by rw [show algN 5 = [6, 30] from by decide +kernel, Nat.eq_of_beq_eq_true cnt5]; rfl
theorem cntA6 : allN 6 41 (algN 6) 41 = numT.getD 5 0 := by rw [show algN 6 = [6, 34] from by decide +kernel, Nat.eq_of_beq_eq_true cnt6]; rfl
theorem cntA7 : allN 7 45 (algN 7) 45 = numT.getD 6 0 := by rw [show algN 7 = [6, 22, 38] from by decide +kernel, Nat.eq_of_beq_eq_true cnt7]; rfl
theorem cntA8 : allN 8 49 (algN 8) 49 = numT.getD 7 0 := by rw [show algN 8 = [6, 24, 42] from by decide +kernel, Nat.eq_of_beq_eq_true cnt8]; rfl
theorem cntA9 : allN 9 53 (algN 9) 53 = numT.getD 8 0 := by rw [show algN 9 = [6, 26, 46] from by decide +kernel, Nat.eq_of_beq_eq_true cnt9]; rfl
theorem cntA10 : allN 10 57 (algN 10) 57 = numT.getD 9 0 := by rw [show algN 10 = [6, 28, 50] from by decide +kernel, Nat.eq_of_beq_eq_true cnt10]; rfl
theorem cntA11 : allN 11 61 (algN 11) 61 = numT.getD 10 0 := by rw [show algN 11 = [6, 30, 54] from by decide +kernel, Nat.eq_of_beq_eq_true cnt11]; rfl
theorem cntA12 : allN 12 65 (algN 12) 65 = numT.getD 11 0 := by rw [show algN 12 = [6, 32, 58] from by decide +kernel, Nat.eq_of_beq_eq_true cnt12]; rfl
theorem cntA13 : allN 13 69 (algN 13) 69 = numT.getD 12 0 := by rw [show algN 13 = [6, 34, 62] from by decide +kernel, Nat.eq_of_beq_eq_true cnt13]; rfl
theorem cntA14 : allN 14 73 (algN 14) 73 = numT.getD 13 0 := by rw [show algN 14 = [6, 26, 46, 66] from by decide +kernel, Nat.eq_of_beq_eq_true cnt14]; rfl
theorem cntA15 : allN 15 77 (algN 15) 77 = numT.getD 14 0 := by rw [show algN 15 = [6, 26, 48, 70] from by decide +kernel, Nat.eq_of_beq_eq_true cnt15]; rfl
theorem cntA16 : allN 16 81 (algN 16) 81 = numT.getD 15 0 := by rw [show algN 16 = [6, 26, 50, 74] from by decide +kernel, Nat.eq_of_beq_eq_true cnt16]; rfl
theorem cntA17 : allN 17 85 (algN 17) 85 = numT.getD 16 0 := by rw [show algN 17 = [6, 30, 54, 78] from by decide +kernel, Nat.eq_of_beq_eq_true cnt17]; rfl
theorem cntA18 : allN 18 89 (algN 18) 89 = numT.getD 17 0 := by rw [show algN 18 = [6, 30, 56, 82] from by decide +kernel, Nat.eq_of_beq_eq_true cnt18]; rfl
theorem cntA19 : allN 19 93 (algN 19) 93 = numT.getD 18 0 := by rw [show algN 19 = [6, 30, 58, 86] from by decide +kernel, Nat.eq_of_beq_eq_true cnt19]; rfl
theorem cntA20 : allN 20 97 (algN 20) 97 = numT.getD 19 0 := by rw [show algN 20 = [6, 34, 62, 90] from by decide +kernel, Nat.eq_of_beq_eq_true cnt20]; rfl
theorem cntA21 : allN 21 101 (algN 21) 101 = numT.getD 20 0 := by rw [show algN 21 = [6, 28, 50, 72, 94] from by decide +kernel, Nat.eq_of_beq_eq_true cnt21]; rfl
theorem cntA22 : allN 22 105 (algN 22) 105 = numT.getD 21 0 := by rw [show algN 22 = [6, 26, 50, 74, 98] from by decide +kernel, Nat.eq_of_beq_eq_true cnt22]; rfl
theorem cntA23 : allN 23 109 (algN 23) 109 = numT.getD 22 0 := by rw [show algN 23 = [6, 30, 54, 78, 102] from by decide +kernel, Nat.eq_of_beq_eq_true cnt23]; rfl
theorem cntA24 : allN 24 113 (algN 24) 113 = numT.getD 23 0 := by rw [show algN 24 = [6, 28, 54, 80, 106] from by decide +kernel, Nat.eq_of_beq_eq_true cnt24]; rfl
theorem cntA25 : allN 25 117 (algN 25) 117 = numT.getD 24 0 := by rw [show algN 25 = [6, 32, 58, 84, 110] from by decide +kernel, Nat.eq_of_beq_eq_true cnt25]; rfl
theorem cntA26 : allN 26 121 (algN 26) 121 = numT.getD 25 0 := by rw [show algN 26 = [6, 30, 58, 86, 114] from by decide +kernel, Nat.eq_of_beq_eq_true cnt26]; rfl
theorem cntA27 : allN 27 125 (algN 27) 125 = numT.getD 26 0 := by rw [show algN 27 = [6, 34, 62, 90, 118] from by decide +kernel, Nat.eq_of_beq_eq_true cnt27]; rfl
theorem cntA28 : allN 28 129 (algN 28) 129 = numT.getD 27 0 := by rw [show algN 28 = [6, 26, 50, 74, 98, 122] from by decide +kernel, Nat.eq_of_beq_eq_true cnt28]; rfl
theorem cntA29 : allN 29 133 (algN 29) 133 = numT.getD 28 0 := by rw [show algN 29 = [6, 30, 54, 78, 102, 126] from by decide +kernel, Nat.eq_of_beq_eq_true cnt29]; rfl
theorem cntA30 : allN 30 137 (algN 30) 137 = numT.getD 29 0 := by rw [show algN 30 = [6, 26, 52, 78, 104, 130] from by decide +kernel, Nat.eq_of_beq_eq_true cnt30]; rfl
theorem cntA31 : allN 31 141 (algN 31) 141 = numT.getD 30 0 := by rw [show algN 31 = [6, 30, 56, 82, 108, 134] from by decide +kernel, Nat.eq_of_beq_eq_true cnt31]; rfl
theorem cntA32 : allN 32 145 (algN 32) 145 = numT.getD 31 0 := by rw [show algN 32 = [6, 34, 60, 86, 112, 138] from by decide +kernel, Nat.eq_of_beq_eq_true cnt32]; rfl
theorem cntA33 : allN 33 149 (algN 33) 149 = numT.getD 32 0 := by rw [show algN 33 = [6, 30, 58, 86, 114, 142] from by decide +kernel, Nat.eq_of_beq_eq_true cnt33]; rfl
theorem cntA34 : allN 34 153 (algN 34) 153 = numT.getD 33 0 := by rw [show algN 34 = [6, 34, 62, 90, 118, 146] from by decide +kernel, Nat.eq_of_beq_eq_true cnt34]; rfl
theorem cntA35 : allN 35 157 (algN 35) 157 = numT.getD 34 0 := by rw [show algN 35 = [6, 30, 54, 78, 102, 126, 150] from by decide +kernel, Nat.eq_of_beq_eq_true cnt35]; rfl
theorem cntA36 : allN 36 161 (algN 36) 161 = numT.getD 35 0 := by rw [show algN 36 = [6, 24, 50, 76, 102, 128, 154] from by decide +kernel, Nat.eq_of_beq_eq_true cnt36]; rfl
theorem cntA37 : allN 37 165 (algN 37) 165 = numT.getD 36 0 := by rw [show algN 37 = [6, 28, 54, 80, 106, 132, 158] from by decide +kernel, Nat.eq_of_beq_eq_true cnt37]; rfl
theorem cntA38 : allN 38 169 (algN 38) 169 = numT.getD 37 0 := by rw [show algN 38 = [6, 32, 58, 84, 110, 136, 162] from by decide +kernel, Nat.eq_of_beq_eq_true cnt38]; rfl
theorem cntA39 : allN 39 173 (algN 39) 173 = numT.getD 38 0 := by rw [show algN 39 = [6, 26, 54, 82, 110, 138, 166] from by decide +kernel, Nat.eq_of_beq_eq_true cnt39]; rfl
theorem cntA40 : allN 40 177 (algN 40) 177 = numT.getD 39 0 := by rw [show algN 40 = [6, 30, 58, 86, 114, 142, 170] from by decide +kernel, Nat.eq_of_beq_eq_true cnt40]; rfl
theorem cnt_all {v : Nat} (h : 1 ≤ v ∧ v ≤ 40) : allN v (17 + 4 * v) (algN v) (17 + 4 * v) = numT.getD (v - 1) 0 := by
  have : v = 1 ∨ v = 2 ∨ v = 3 ∨ v = 4 ∨ v = 5 ∨ v = 6 ∨ v = 7 ∨ v = 8 ∨ v = 9 ∨ v = 10 ∨ v = 11 ∨ v = 12 ∨ v = 13 ∨ v = 14 ∨ v = 15 ∨ v = 16 ∨ v = 17 ∨ v = 18 ∨ v = 19 ∨ v = 20 ∨ v = 21 ∨ v = 22 ∨ v = 23 ∨ v = 24 ∨ v = 25 ∨ v = 26 ∨ v = 27 ∨ v = 28 ∨ v = 29 ∨ v = 30 ∨ v = 31 ∨ v = 32 ∨ v = 33 ∨ v = 34 ∨ v = 35 ∨ v = 36 ∨ v = 37 ∨ v = 38 ∨ v = 39 ∨ v = 40 := by omega
  rcases this with rfl | rfl | rfl | rfl | rfl | rfl | rfl | rfl | rfl | rfl | rfl | rfl | rfl | rfl | rfl | rfl | rfl | rfl | rfl | rfl | rfl | rfl | rfl | rfl | rfl | rfl | rfl | rfl | rfl | rfl | rfl | rfl | rfl | rfl | rfl | rfl | rfl | rfl | rfl | rfl
  · exact cntA1
  · exact cntA2
  · exact cntA3
  · exact cntA4
  · exact cntA5
  · exact cntA6
  · exact cntA7
  · exact cntA8
  · exact cntA9
  · exact cntA10
  · exact cntA11
  · exact cntA12
  · exact cntA13
  · exact cntA14
  · exact cntA15
  · exact cntA16
  · exact cntA17
  · exact cntA18
  · exact cntA19
  · exact cntA20
  · exact cntA21
  · exact cntA22
  · exact cntA23
  · exact cntA24
  · exact cntA25
  · exact cntA26
  · exact cntA27
  · exact cntA28
  · exact cntA29
  · exact cntA30
  · exact cntA31
  · exact cntA32
  · exact cntA33
  · exact cntA34
  · exact cntA35
  · exact cntA36
  · exact cntA37
  · exact cntA38
  · exact cntA39
  · exact cntA40
def infoN (v : Nat) : Nat := if 7 ≤ v then 36 else 0
def alignN (n : Nat) : Nat := if 0 < n then 25 * (n * n - 3) else 0
def timN (v : Nat) : Nat := numT.getD (v - 1) 0 / 1000000 ^ 3 % 1000000
theorem table : ∀ v : Fin 40, (match barscanref17_Codewords.f 10 ((v.val + 1 : Nat) : Int) with
    | some (n, r, e) => decide (0 ≤ n ∧ n ≤ 4000 ∧ 0 ≤ r ∧ r ≤ 7 ∧ e = 0) && Nat.beq (numT.getD v.val 0) ((8 * n + r).toNat * 1000000 + 192 * 1000000 ^ 2 + timN (v.val + 1) * 1000000 ^ 3 + alignN (alg ((v.val + 1 : Nat) : Int)).length * 1000000 ^ 4 + 30 * 1000000 ^ 5 + infoN (v.val + 1) * 1000000 ^ 6 + 1 * 1000000 ^ 7)
    | none => false) = true := by decide +kernel
theorem count_le_len (l : List Int) (c : Int) : l.count c ≤ l.length := List.count_le_length
theorem counts {v : Nat} (h : 1 ≤ v ∧ v ≤ 40) : ∃ n r : Int, barscanref17_Codewords.f 10 (v : Int) = some (n, r, 0) ∧ (0 ≤ n ∧ n ≤ 4000 ∧ 0 ≤ r ∧ r ≤ 7) ∧
    ((gridL (v : Int) (sd (v : Int) * sd (v : Int))).count 1 : Int) = 8 * n + r ∧ (gridL (v : Int) (sd (v : Int) * sd (v : Int))).count 2 = 192 ∧ (gridL (v : Int) (sd (v : Int) * sd (v : Int))).count 4 = alignN (alg (v : Int)).length ∧
    (gridL (v : Int) (sd (v : Int) * sd (v : Int))).count 5 = 30 ∧ (gridL (v : Int) (sd (v : Int) * sd (v : Int))).count 6 = infoN v ∧ (gridL (v : Int) (sd (v : Int) * sd (v : Int))).count 7 = 1 := by
  have t := table ⟨v - 1, by omega⟩
  simp only [show v - 1 + 1 = v by omega] at t
  cases hf : barscanref17_Codewords.f 10 (v : Int) with
  | none => rw [hf] at t; exact absurd t (by simp)
  | some q =>
    obtain ⟨n, r, e⟩ := q
    rw [hf] at t
    replace t : (decide (0 ≤ n ∧ n ≤ 4000 ∧ 0 ≤ r ∧ r ≤ 7 ∧ e = 0) && Nat.beq (numT.getD (v - 1) 0) ((8 * n + r).toNat * 1000000 + 192 * 1000000 ^ 2 + timN v * 1000000 ^ 3 + alignN (alg (v : Int)).length * 1000000 ^ 4 + 30 * 1000000 ^ 5 + infoN v * 1000000 ^ 6 + 1 * 1000000 ^ 7)) = true := t
    rw [Bool.and_eq_true, decide_eq_true_eq] at t
    obtain ⟨⟨t1, t2, t3, t4, rfl⟩, t5⟩ := t
    have t5 := Nat.eq_of_beq_eq_true t5
    have h1 := pk_grid h (17 + 4 * v)
    rw [cnt_all h, t5, show (17 + 4 * v) * (17 + 4 * v) = sd (v : Int) * sd (v : Int) by rw [sd_nat]] at h1
    have h2 := pk_counts _ (grid_range h (sd (v : Int) * sd (v : Int)))
    have hlen := gridL_len (v : Int) (sd (v : Int) * sd (v : Int))
    have hm : sd (v : Int) * sd (v : Int) ≤ 177 * 177 := by rw [sd_nat]; exact Nat.mul_le_mul (by omega) (by omega)
    have hc := fun c => count_le_len (gridL (v : Int) (sd (v : Int) * sd (v : Int))) c
    have c1 := hc 1; have c2 := hc 2; have c3 := hc 3; have c4 := hc 4; have c5 := hc 5; have c6 := hc 6
    have hal : alignN (alg (v : Int)).length < 1000000 := by
      have := (al_ok ⟨v - 1, by omega⟩).1
      simp only [show v - 1 + 1 = v by omega] at this
      unfold alignN
      have hq : (alg (v : Int)).length * (alg (v : Int)).length ≤ 7 * 7 := Nat.mul_le_mul this this
      split <;> omega
    have hin : infoN v < 1000000 := by unfold infoN; split <;> omega
    have hti : timN v < 1000000 := Nat.mod_lt _ (by omega)
    rw [h1] at h2
    have := digits (by refine ⟨?_, ?_, hti, hal, ?_, hin⟩ <;> omega) (by refine ⟨?_, ?_, ?_, ?_, ?_, ?_⟩ <;> omega) h2
    refine ⟨n, r, rfl, ⟨t1, t2, t3, t4⟩, ?_⟩
    omega
end Go.Proofs.Ytbbnagjfjgkgjaa.Pure

/- The path visits each data module once. -/
namespace Go.Proofs.Ytbbnagjfjgkgjaa.Pure
open Go.RowKit Go.Proofs.Ytbbnagjfjgkgjaa.L Go.Proofs.YtbbnagjfjgkgjaaW.PrintWords Go.Proofs.YtbbnagjfjgkgjaaW.PrintLast Go.Proofs.YtbbnagjfjgkgjaaW.PrintMore
set_option linter.unusedVariables false
set_option linter.unusedSimpArgs false

theorem colR_mem {s r : Int} {up : Bool} {n : Nat} {p : S45} : p ∈ colR s r up n ↔ ∃ i : Nat, i < n ∧ (p = ⟨r, yv s up i⟩ ∨ p = ⟨r - 1, yv s up i⟩) := by
  unfold colR
  simp only [List.mem_flatMap, List.mem_range, List.mem_cons, List.not_mem_nil, or_false]
theorem colR_nodup (s r : Int) (up : Bool) : ∀ n : Nat, (colR s r up n).Nodup
  | 0 => List.nodup_nil
  | n + 1 => by
    rw [colR_succ, List.nodup_append]
    refine ⟨colR_nodup s r up n, ?_, ?_⟩
    · rw [List.nodup_cons]
      refine ⟨?_, List.nodup_cons.2 ⟨by simp, List.nodup_nil⟩⟩
      intro hh
      rw [List.mem_singleton] at hh
      have := congrArg S45.f0 hh
      simp only at this
      omega
    · intro a ha b hb hab
      subst hab
      obtain ⟨i, hi, hp⟩ := colR_mem.1 ha
      have e1 : a.f1 = yv s up i := by rcases hp with rfl | rfl <;> rfl
      have e2 : a.f1 = yv s up n := by
        simp only [List.mem_cons, List.not_mem_nil, or_false] at hb
        rcases hb with rfl | rfl <;> rfl
      rw [e1] at e2
      unfold yv at e2
      split at e2 <;> omega
theorem allL_cols {v : Int} (h : 1 ≤ v ∧ v ≤ 40) : ∀ (n : Nat) (r : Int) (up : Bool), r < 17 + 4 * v → ∀ p ∈ allL (17 + 4 * v) n r up, p.f0 ≤ r
  | 0, r, up, hr, p, hp => by simp [allL] at hp
  | n + 1, r, up, hr, p, hp => by
    have hs := sd_eq h; have hb := sd_bd h
    rw [allL] at hp
    by_cases h0 : r > 0
    · rw [if_pos h0] at hp
      obtain ⟨q, hq⟩ : ∃ q, (if r = 6 then 5 else r) = q := ⟨_, rfl⟩
      have hq1 : 1 ≤ q ∧ q ≤ r := by rw [← hq]; split <;> omega
      have e2 : (wrap64 (2 * (17 + 4 * v))).toNat = 2 * sd v := by rw [w64 (by omega)]; omega
      rw [hq, e2, colL_eq up (by omega) (by omega) hq1.1 (by omega) (sd v) (by omega), w64 (n := q - 2) (by omega), List.mem_append] at hp
      rcases hp with hp | hp
      · obtain ⟨i, hi, hp⟩ := colR_mem.1 hp
        rcases hp with rfl | rfl
        · show q ≤ r; omega
        · show q - 1 ≤ r; omega
      · have := allL_cols h n (q - 2) (!up) (by omega) p hp
        omega
    · rw [if_neg h0] at hp; simp at hp
theorem allL_nodup {v : Int} (h : 1 ≤ v ∧ v ≤ 40) : ∀ (n : Nat) (r : Int) (up : Bool), r < 17 + 4 * v → (allL (17 + 4 * v) n r up).Nodup
  | 0, r, up, hr => by rw [allL]; exact List.nodup_nil
  | n + 1, r, up, hr => by
    have hs := sd_eq h; have hb := sd_bd h
    rw [allL]
    by_cases h0 : r > 0
    · rw [if_pos h0]
      obtain ⟨q, hq⟩ : ∃ q, (if r = 6 then 5 else r) = q := ⟨_, rfl⟩
      have hq1 : 1 ≤ q ∧ q ≤ r := by rw [← hq]; split <;> omega
      have e2 : (wrap64 (2 * (17 + 4 * v))).toNat = 2 * sd v := by rw [w64 (by omega)]; omega
      rw [hq, e2, colL_eq up (by omega) (by omega) hq1.1 (by omega) (sd v) (by omega), w64 (n := q - 2) (by omega), List.nodup_append]
      refine ⟨colR_nodup _ _ _ _, allL_nodup h n (q - 2) (!up) (by omega), ?_⟩
      intro a ha b hb hab
      subst hab
      have hc := allL_cols h n (q - 2) (!up) (by omega) a hb
      obtain ⟨i, hi, hp⟩ := colR_mem.1 ha
      rcases hp with rfl | rfl
      · replace hc : q ≤ q - 2 := hc; omega
      · replace hc : q - 1 ≤ q - 2 := hc; omega
    · rw [if_neg h0]; exact List.nodup_nil
theorem allL_mem {v : Int} (h : 1 ≤ v ∧ v ≤ 40) : ∀ (n : Nat) (r : Int) (up : Bool), r.toNat ≤ n → r < 17 + 4 * v → ((r % 2 = 0 ∧ 6 ≤ r) ∨ (r % 2 = 1 ∧ r ≤ 5)) → ∀ x y : Int, 0 ≤ x → x ≤ r → x ≠ 6 → 0 ≤ y → y < 17 + 4 * v → (⟨x, y⟩ : S45) ∈ allL (17 + 4 * v) n r up
  | 0, r, up, hn, hr, hpar, x, y, hx0, hx1, hx6, hy0, hy1 => by omega
  | n + 1, r, up, hn, hr, hpar, x, y, hx0, hx1, hx6, hy0, hy1 => by
    have hs := sd_eq h; have hb := sd_bd h
    have h0 : r > 0 := by omega
    rw [allL, if_pos h0]
    obtain ⟨q, hq⟩ : ∃ q, (if r = 6 then 5 else r) = q := ⟨_, rfl⟩
    have hq1 : 1 ≤ q ∧ q ≤ r ∧ (q = r ∨ (r = 6 ∧ q = 5)) ∧ q ≠ 6 := by rw [← hq]; split <;> omega
    have e2 : (wrap64 (2 * (17 + 4 * v))).toNat = 2 * sd v := by rw [w64 (by omega)]; omega
    rw [hq, e2, colL_eq up (by omega) (by omega) hq1.1 (by omega) (sd v) (by omega), w64 (n := q - 2) (by omega), List.mem_append]
    by_cases hcol : x = q ∨ x = q - 1
    · refine .inl (colR_mem.2 ?_)
      cases up
      · refine ⟨y.toNat, by omega, ?_⟩
        have : yv (17 + 4 * v) false y.toNat = y := by unfold yv; simp; omega
        rw [this]
        rcases hcol with rfl | rfl
        · exact .inl rfl
        · exact .inr rfl
      · refine ⟨(17 + 4 * v - 1 - y).toNat, by omega, ?_⟩
        have : yv (17 + 4 * v) true (17 + 4 * v - 1 - y).toNat = y := by unfold yv; simp; omega
        rw [this]
        rcases hcol with rfl | rfl
        · exact .inl rfl
        · exact .inr rfl
    · refine .inr (allL_mem h n (q - 2) (!up) (by omega) (by omega) (by omega) x y hx0 (by omega) hx6 hy0 hy1)
def ix (v : Int) (p : S45) : Int := p.f1 * (17 + 4 * v) + p.f0
theorem pts_facts {v : Int} (h : 1 ≤ v ∧ v ≤ 40) : ∀ p ∈ ptsT v, (0 ≤ p.f0 ∧ p.f0 < 17 + 4 * v) ∧ (0 ≤ p.f1 ∧ p.f1 < 17 + 4 * v) ∧ cellT v (17 + 4 * v) (alg v) p.f0 p.f1 = 1 := by
  intro p hp
  unfold ptsT dataQ at hp
  obtain ⟨hp, hc⟩ := List.mem_filter.1 hp
  obtain ⟨hx, hy⟩ := allL_in h _ _ _ (by omega) p hp
  exact ⟨hx, hy, by simpa using hc⟩
theorem pts_nodup {v : Int} (h : 1 ≤ v ∧ v ≤ 40) : (ptsT v).Nodup := by
  unfold ptsT dataQ
  exact (allL_nodup h _ _ _ (by omega)).filter _
theorem pts_mem {v : Int} (h : 1 ≤ v ∧ v ≤ 40) {x y : Int} (hx : 0 ≤ x ∧ x < 17 + 4 * v) (hy : 0 ≤ y ∧ y < 17 + 4 * v) (hc : cellT v (17 + 4 * v) (alg v) x y = 1) : (⟨x, y⟩ : S45) ∈ ptsT v := by
  unfold ptsT dataQ
  refine List.mem_filter.2 ⟨allL_mem h _ _ _ (Nat.le_refl _) (by omega) (by omega) x y hx.1 (by omega) ?_ hy.1 hy.2, by simpa using hc⟩
  intro h6
  subst h6
  unfold cellT at hc
  have h6' : (6 : Int) = 6 ∨ y = 6 := .inl rfl
  rw [if_pos h6'] at hc
  split at hc
  · omega
  · split at hc <;> omega
theorem ix_bd {v : Int} (h : 1 ≤ v ∧ v ≤ 40) {p : S45} (hx : 0 ≤ p.f0 ∧ p.f0 < 17 + 4 * v) (hy : 0 ≤ p.f1 ∧ p.f1 < 17 + 4 * v) :
    0 ≤ ix v p ∧ ix v p < ((sd v * sd v : Nat) : Int) ∧ 0 ≤ p.f1 * (17 + 4 * v) ∧ p.f1 * (17 + 4 * v) ≤ 40000 ∧ rd (gridL v (sd v * sd v)) (ix v p) = cellT v (17 + 4 * v) (alg v) p.f0 p.f1 := by
  obtain ⟨a, b, c, d⟩ := grid_at h hx hy
  exact ⟨a, b, Int.mul_nonneg hy.1 (by omega), c, d⟩
theorem ix_inj {v : Int} (h : 1 ≤ v ∧ v ≤ 40) {p q : S45} (hp : 0 ≤ p.f0 ∧ p.f0 < 17 + 4 * v) (hq : 0 ≤ q.f0 ∧ q.f0 < 17 + 4 * v) (e : ix v p = ix v q) : p = q := by
  obtain ⟨px, py⟩ := p
  obtain ⟨qx, qy⟩ := q
  unfold ix at e
  simp only at e hp hq
  have hy : py = qy := by
    have h1 : (py * (17 + 4 * v) + px) / (17 + 4 * v) = py := by
      rw [Int.add_comm, Int.add_mul_ediv_right _ _ (by omega), Int.ediv_eq_zero_of_lt hp.1 hp.2, Int.zero_add]
    have h2 : (qy * (17 + 4 * v) + qx) / (17 + 4 * v) = qy := by
      rw [Int.add_comm, Int.add_mul_ediv_right _ _ (by omega), Int.ediv_eq_zero_of_lt hq.1 hq.2, Int.zero_add]
    rw [← h1, e, h2]
  subst hy
  have : px = qx := by omega
  subst this
  rfl
theorem seen_iff {v : Int} (h : 1 ≤ v ∧ v ≤ 40) (j : Nat) (hj : j < sd v * sd v) : (∃ p ∈ ptsT v, ix v p = (j : Int)) ↔ rd (gridL v (sd v * sd v)) (j : Int) = 1 := by
  have hs := sd_eq h; have hb := sd_bd h
  constructor
  · rintro ⟨p, hp, e⟩
    obtain ⟨hx, hy, hc⟩ := pts_facts h p hp
    obtain ⟨_, _, _, _, hg⟩ := ix_bd h hx hy
    rw [← e, hg, hc]
  · intro hg
    have b1 : j % sd v < sd v := Nat.mod_lt _ (by omega)
    have b2 : j / sd v < sd v := Nat.div_lt_of_lt_mul hj
    have hx : 0 ≤ ((j % sd v : Nat) : Int) ∧ ((j % sd v : Nat) : Int) < 17 + 4 * v := by
      generalize j % sd v = q at b1 ⊢
      omega
    have hy : 0 ≤ ((j / sd v : Nat) : Int) ∧ ((j / sd v : Nat) : Int) < 17 + 4 * v := by
      generalize j / sd v = q at b2 ⊢
      omega
    have e : ix v (⟨((j % sd v : Nat) : Int), ((j / sd v : Nat) : Int)⟩ : S45) = (j : Int) := by
      unfold ix
      simp only
      rw [← hs, ← Int.natCast_mul, ← Int.natCast_add, Nat.mul_comm, Nat.div_add_mod]
    refine ⟨_, pts_mem h hx hy ?_, e⟩
    have := (ix_bd h (p := (⟨((j % sd v : Nat) : Int), ((j / sd v : Nat) : Int)⟩ : S45)) hx hy).2.2.2.2
    rw [e, hg] at this
    exact this.symm
theorem pts_len {v : Int} (h : 1 ≤ v ∧ v ≤ 40) : (ptsT v).length = (gridL v (sd v * sd v)).count 1 := by
  have hs := sd_eq h; have hb := sd_bd h
  have n1 : ((ptsT v).map fun p => (ix v p).toNat).Nodup := by
    refine List.Pairwise.map _ (fun a b (hab : a ≠ b ∧ a ∈ ptsT v ∧ b ∈ ptsT v) => ?_) ((pts_nodup h).imp_of_mem (fun ha hb hne => ⟨hne, ha, hb⟩))
    intro e
    obtain ⟨hne, ha, hb'⟩ := hab
    obtain ⟨ax, ay, _⟩ := pts_facts h a ha
    obtain ⟨bx, by', _⟩ := pts_facts h b hb'
    have a0 := (ix_bd h ax ay).1
    have b0 := (ix_bd h bx by').1
    exact hne (ix_inj h ax bx (by omega))
  have n2 : ((List.range (sd v * sd v)).filter fun j => rd (gridL v (sd v * sd v)) ((j : Nat) : Int) == 1).Nodup := List.nodup_range.filter _
  have hp : ((ptsT v).map fun p => (ix v p).toNat).Perm ((List.range (sd v * sd v)).filter fun j => rd (gridL v (sd v * sd v)) ((j : Nat) : Int) == 1) := by
    rw [List.perm_ext_iff_of_nodup n1 n2]
    intro j
    rw [List.mem_map, List.mem_filter, List.mem_range]
    constructor
    · rintro ⟨p, hp, rfl⟩
      obtain ⟨hx, hy, hc⟩ := pts_facts h p hp
      obtain ⟨i0, i1, _, _, hg⟩ := ix_bd h hx hy
      refine ⟨by omega, ?_⟩
      rw [Int.toNat_of_nonneg i0, hg, hc]
      rfl
    · rintro ⟨hj, hg⟩
      obtain ⟨p, hp, e⟩ := (seen_iff h j hj).2 (by simpa using hg)
      exact ⟨p, hp, by rw [e]; rfl⟩
  have := hp.length_eq
  rw [List.length_map] at this
  rw [this, List.count_eq_countP, ← List.countP_eq_length_filter]
  have e : gridL v (sd v * sd v) = (List.range (sd v * sd v)).map fun j : Nat => rd (gridL v (sd v * sd v)) (j : Int) := by
    refine List.ext_getElem (by simp [gridL_len]) fun i h1 h2 => ?_
    rw [List.getElem_map, List.getElem_range, rd_nat _ _ h1]
  conv => rhs; rw [e]
  rw [List.countP_map]
  rfl
end Go.Proofs.Ytbbnagjfjgkgjaa.Pure
