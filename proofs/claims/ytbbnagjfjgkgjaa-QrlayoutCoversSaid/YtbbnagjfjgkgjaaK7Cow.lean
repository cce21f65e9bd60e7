/- The numbers of modules of each purpose, for each version. -/
import Derived.Test.YtbbnagjfjgkgjaaK7Cov
import Derived.Test.YtbbnagjfjgkgjaaK7Cnb
import Derived.Test.YtbbnagjfjgkgjaaK7Cnc
import Derived.Test.YtbbnagjfjgkgjaaK7Cnd
import Derived.Test.YtbbnagjfjgkgjaaK7Cne
import Derived.Test.YtbbnagjfjgkgjaaK7Lv0
namespace Go.Proofs.Ytbbnagjfjgkgjaa.Pure
open Go.RowKit Go.Proofs.Ytbbnagjfjgkgjaa.L Go.Proofs.YtbbnagjfjgkgjaaW.PrintWords Go.Proofs.YtbbnagjfjgkgjaaW.PrintLast Go.Proofs.YtbbnagjfjgkgjaaW.PrintMore
set_option linter.unusedVariables false
set_option linter.unusedSimpArgs false

def numT : List Nat := [1000000000030000000000010000192000208000000, 1000000000030000025000018000192000359000000, 1000000000030000025000026000192000567000000, 1000000000030000025000034000192000807000000, 1000000000030000025000042000192001079000000, 1000000000030000025000050000192001383000000, 1000036000030000150000048000192001568000000, 1000036000030000150000056000192001936000000, 1000036000030000150000064000192002336000000, 1000036000030000150000072000192002768000000, 1000036000030000150000080000192003232000000, 1000036000030000150000088000192003728000000, 1000036000030000150000096000192004256000000, 1000036000030000325000094000192004651000000, 1000036000030000325000102000192005243000000, 1000036000030000325000110000192005867000000, 1000036000030000325000118000192006523000000, 1000036000030000325000126000192007211000000, 1000036000030000325000134000192007931000000, 1000036000030000325000142000192008683000000, 1000036000030000550000140000192009252000000, 1000036000030000550000148000192010068000000, 1000036000030000550000156000192010916000000, 1000036000030000550000164000192011796000000, 1000036000030000550000172000192012708000000, 1000036000030000550000180000192013652000000, 1000036000030000550000188000192014628000000, 1000036000030000825000186000192015371000000, 1000036000030000825000194000192016411000000, 1000036000030000825000202000192017483000000, 1000036000030000825000210000192018587000000, 1000036000030000825000218000192019723000000, 1000036000030000825000226000192020891000000, 1000036000030000825000234000192022091000000, 1000036000030001150000232000192023008000000, 1000036000030001150000240000192024272000000, 1000036000030001150000248000192025568000000, 1000036000030001150000256000192026896000000, 1000036000030001150000264000192028256000000, 1000036000030001150000272000192029648000000]
theorem cntA1 : allN 1 21 (algN 1) 21 = numT.getD 0 0 := by rw [show algN 1 = [] from by decide +kernel, Nat.eq_of_beq_eq_true cnt1]; rfl
theorem cntA2 : allN 2 25 (algN 2) 25 = numT.getD 1 0 := by rw [show algN 2 = [6, 18] from by decide +kernel, Nat.eq_of_beq_eq_true cnt2]; rfl
theorem cntA3 : allN 3 29 (algN 3) 29 = numT.getD 2 0 := by rw [show algN 3 = [6, 22] from by decide +kernel, Nat.eq_of_beq_eq_true cnt3]; rfl
theorem cntA4 : allN 4 33 (algN 4) 33 = numT.getD 3 0 := by rw [show algN 4 = [6, 26] from by decide +kernel, Nat.eq_of_beq_eq_true cnt4]; rfl
theorem cntA5 : allN 5 37 (algN 5) 37 = numT.getD 4 0 := by rw [show algN 5 = [6, 30] from by decide +kernel, Nat.eq_of_beq_eq_true cnt5]; rfl
theorem cntA6 : allN 6 41 (algN 6) 41 = numT.getD 5 0 := by rw [show algN 6 = [6, 34] from by decide +kernel, Nat.eq_of_beq_eq_true cnt6]; rfl
theorem cntA7 : allN 7 45 (algN 7) 45 = numT.getD 6 0 := by rw [show algN 7 = [6, 22, 38] from by decide +kernel, Nat.eq_of_beq_eq_true cnt7]; rfl
theorem cntA8 : allN 8 49 (algN 8) 49 = numT.getD 7 0 := by rw [show algN 8 = [6, 24, 42] from by decide +kernel, Nat.eq_of_beq_eq_true cnt8]; rfl
theorem cntA9 : allN 9 53 (algN 9) 53 = numT.getD 8 0 := by rw [show algN 9 = [6, 26, 46] from by decide +kernel, Nat.eq_of_beq_eq_true cnt9]; rfl
theorem cntA10 : allN 10 57 (algN 10) 57 = numT.getD 9 0 := by rw [show algN 10 = [6, 28, 50] from by decide +kernel, Nat.eq_of_beq_eq_true cnt10]; rfl
theorem cntA11 : allN 11 61 (algN 11) 61 = numT.getD 10 0 := by rw [show algN 11 = [6, 30, 54] from by decide +kernel, Nat.eq_of_beq_eq_true cnt11]; rfl
theorem cntA12 : allN 12 65 (algN 12) 65 = numT.getD 11 0 := by rw [show algN 12 = [6, 32, 58] from by decide +kernel, Nat.eq_of_beq_eq_true cnt12]; rfl
theorem cntA13 : allN 13 69 (algN 13) 69 = numT.getD 12 0 := by rw [show algN 13 = [6, 34, 62] from by decide +kernel, Nat.eq_of_beq_eq_true cnt13]; rfl
theorem cntA14 : allN 14 73 (algN 14) 73 = numT.getD 13 0 := by rw [show algN 14 = [6, 26, 46, 66] from by decide +kernel, Nat.eq_of_beq_eq_true cnt14]; rfl
theorem cntA15 : allN 15 77 (algN 15) 77 = numT.getD 14 0 := by rw [show algN 15 = [6, 26, 48, 70] from by decide +kernel, Nat.eq_of_beq_eq_true cnt15]; rfl
theorem cntA16 : allN 16 81 (algN 16) 81 = numT.getD 15 0 := by rw [show algN 16 = [6, 26, 50, 74] from by decide +kernel, Nat.eq_of_beq_eq_true cnt16]; rfl
theorem cntA17 : allN 17 85 (algN 17) 85 = numT.getD 16 0 := by rw [show algN 17 = [6, 30, 54, 78] from by decide +kernel, Nat.eq_of_beq_eq_true cnt17]; rfl
theorem cntA18 : allN 18 89 (algN 18) 89 = numT.getD 17 0 := by rw [show algN 18 = [6, 30, 56, 82] from by decide +kernel, Nat.eq_of_beq_eq_true cnt18]; rfl
theorem cntA19 : allN 19 93 (algN 19) 93 = numT.getD 18 0 := by rw [show algN 19 = [6, 30, 58, 86] from by decide +kernel, Nat.eq_of_beq_eq_true cnt19]; rfl
theorem cntA20 : allN 20 97 (algN 20) 97 = numT.getD 19 0 := by rw [show algN 20 = [6, 34, 62, 90] from by decide +kernel, Nat.eq_of_beq_eq_true cnt20]; rfl
theorem cntA21 : allN 21 101 (algN 21) 101 = numT.getD 20 0 := by rw [show algN 21 = [6, 28, 50, 72, 94] from by decide +kernel, Nat.eq_of_beq_eq_true cnt21]; rfl
theorem cntA22 : allN 22 105 (algN 22) 105 = numT.getD 21 0 := by rw [show algN 22 = [6, 26, 50, 74, 98] from by decide +kernel, Nat.eq_of_beq_eq_true cnt22]; rfl
theorem cntA23 : allN 23 109 (algN 23) 109 = numT.getD 22 0 := by rw [show algN 23 = [6, 30, 54, 78, 102] from by decide +kernel, Nat.eq_of_beq_eq_true cnt23]; rfl
theorem cntA24 : allN 24 113 (algN 24) 113 = numT.getD 23 0 := by rw [show algN 24 = [6, 28, 54, 80, 106] from by decide +kernel, Nat.eq_of_beq_eq_true cnt24]; rfl
theorem cntA25 : allN 25 117 (algN 25) 117 = numT.getD 24 0 := by rw [show algN 25 = [6, 32, 58, 84, 110] from by decide +kernel, Nat.eq_of_beq_eq_true cnt25]; rfl
theorem cntA26 : allN 26 121 (algN 26) 121 = numT.getD 25 0 := by rw [show algN 26 = [6, 30, 58, 86, 114] from by decide +kernel, Nat.eq_of_beq_eq_true cnt26]; rfl
theorem cntA27 : allN 27 125 (algN 27) 125 = numT.getD 26 0 := by rw [show algN 27 = [6, 34, 62, 90, 118] from by decide +kernel, Nat.eq_of_beq_eq_true cnt27]; rfl
theorem cntA28 : allN 28 129 (algN 28) 129 = numT.getD 27 0 := by rw [show algN 28 = [6, 26, 50, 74, 98, 122] from by decide +kernel, Nat.eq_of_beq_eq_true cnt28]; rfl
theorem cntA29 : allN 29 133 (algN 29) 133 = numT.getD 28 0 := by rw [show algN 29 = [6, 30, 54, 78, 102, 126] from by decide +kernel, Nat.eq_of_beq_eq_true cnt29]; rfl
theorem cntA30 : allN 30 137 (algN 30) 137 = numT.getD 29 0 := by rw [show algN 30 = [6, 26, 52, 78, 104, 130] from by decide +kernel, Nat.eq_of_beq_eq_true cnt30]; rfl
theorem cntA31 : allN 31 141 (algN 31) 141 = numT.getD 30 0 := by rw [show algN 31 = [6, 30, 56, 82, 108, 134] from by decide +kernel, Nat.eq_of_beq_eq_true cnt31]; rfl
theorem cntA32 : allN 32 145 (algN 32) 145 = numT.getD 31 0 := by rw [show algN 32 = [6, 34, 60, 86, 112, 138] from by decide +kernel, Nat.eq_of_beq_eq_true cnt32]; rfl
theorem cntA33 : allN 33 149 (algN 33) 149 = numT.getD 32 0 := by rw [show algN 33 = [6, 30, 58, 86, 114, 142] from by decide +kernel, Nat.eq_of_beq_eq_true cnt33]; rfl
theorem cntA34 : allN 34 153 (algN 34) 153 = numT.getD 33 0 := by rw [show algN 34 = [6, 34, 62, 90, 118, 146] from by decide +kernel, Nat.eq_of_beq_eq_true cnt34]; rfl
theorem cntA35 : allN 35 157 (algN 35) 157 = numT.getD 34 0 := by rw [show algN 35 = [6, 30, 54, 78, 102, 126, 150] from by decide +kernel, Nat.eq_of_beq_eq_true cnt35]; rfl
theorem cntA36 : allN 36 161 (algN 36) 161 = numT.getD 35 0 := by rw [show algN 36 = [6, 24, 50, 76, 102, 128, 154] from by decide +kernel, Nat.eq_of_beq_eq_true cnt36]; rfl
theorem cntA37 : allN 37 165 (algN 37) 165 = numT.getD 36 0 := by rw [show algN 37 = [6, 28, 54, 80, 106, 132, 158] from by decide +kernel, Nat.eq_of_beq_eq_true cnt37]; rfl
theorem cntA38 : allN 38 169 (algN 38) 169 = numT.getD 37 0 := by rw [show algN 38 = [6, 32, 58, 84, 110, 136, 162] from by decide +kernel, Nat.eq_of_beq_eq_true cnt38]; rfl
theorem cntA39 : allN 39 173 (algN 39) 173 = numT.getD 38 0 := by rw [show algN 39 = [6, 26, 54, 82, 110, 138, 166] from by decide +kernel, Nat.eq_of_beq_eq_true cnt39]; rfl
theorem cntA40 : allN 40 177 (algN 40) 177 = numT.getD 39 0 := by rw [show algN 40 = [6, 30, 58, 86, 114, 142, 170] from by decide +kernel, Nat.eq_of_beq_eq_true cnt40]; rfl
theorem cnt_all {v : Nat} (h : 1 ≤ v ∧ v ≤ 40) : allN v (17 + 4 * v) (algN v) (17 + 4 * v) = numT.getD (v - 1) 0 := by
  have : v = 1 ∨ v = 2 ∨ v = 3 ∨ v = 4 ∨ v = 5 ∨ v = 6 ∨ v = 7 ∨ v = 8 ∨ v = 9 ∨ v = 10 ∨ v = 11 ∨ v = 12 ∨ v = 13 ∨ v = 14 ∨ v = 15 ∨ v = 16 ∨ v = 17 ∨ v = 18 ∨ v = 19 ∨ v = 20 ∨ v = 21 ∨ v = 22 ∨ v = 23 ∨ v = 24 ∨ v = 25 ∨ v = 26 ∨ v = 27 ∨ v = 28 ∨ v = 29 ∨ v = 30 ∨ v = 31 ∨ v = 32 ∨ v = 33 ∨ v = 34 ∨ v = 35 ∨ v = 36 ∨ v = 37 ∨ v = 38 ∨ v = 39 ∨ v = 40 := by omega
  rcases this with rfl | rfl | rfl | rfl | rfl | rfl | rfl | rfl | rfl | rfl | rfl | rfl | rfl | rfl | rfl | rfl | rfl | rfl | rfl | rfl | rfl | rfl | rfl | rfl | rfl | rfl | rfl | rfl | rfl | rfl | rfl | rfl | rfl | rfl | rfl | rfl | rfl | rfl | rfl | rfl
  · exact cntA1
  · exact cntA2
  · exact cntA3
  · exact cntA4
  · exact cntA5
  · exact cntA6
  · exact cntA7
  · exact cntA8
  · exact cntA9
  · exact cntA10
  · exact cntA11
  · exact cntA12
  · exact cntA13
  · exact cntA14
  · exact cntA15
  · exact cntA16
  · exact cntA17
  · exact cntA18
  · exact cntA19
  · exact cntA20
  · exact cntA21
  · exact cntA22
  · exact cntA23
  · exact cntA24
  · exact cntA25
  · exact cntA26
  · exact cntA27
  · exact cntA28
  · exact cntA29
  · exact cntA30
  · exact cntA31
  · exact cntA32
  · exact cntA33
  · exact cntA34
  · exact cntA35
  · exact cntA36
  · exact cntA37
  · exact cntA38
  · exact cntA39
  · exact cntA40
def infoN (v : Nat) : Nat := if 7 ≤ v then 36 else 0
def alignN (n : Nat) : Nat := if 0 < n then 25 * (n * n - 3) else 0
def timN (v : Nat) : Nat := numT.getD (v - 1) 0 / 1000000 ^ 3 % 1000000
theorem table : ∀ v : Fin 40, (match barscanref17_Codewords.f 10 ((v.val + 1 : Nat) : Int) with
    | some (n, r, e) => decide (0 ≤ n ∧ n ≤ 4000 ∧ 0 ≤ r ∧ r ≤ 7 ∧ e = 0) && Nat.beq (numT.getD v.val 0) ((8 * n + r).toNat * 1000000 + 192 * 1000000 ^ 2 + timN (v.val + 1) * 1000000 ^ 3 + alignN (alg ((v.val + 1 : Nat) : Int)).length * 1000000 ^ 4 + 30 * 1000000 ^ 5 + infoN (v.val + 1) * 1000000 ^ 6 + 1 * 1000000 ^ 7)
    | none => false) = true := by decide +kernel
theorem count_le_len (l : List Int) (c : Int) : l.count c ≤ l.length := List.count_le_length
theorem counts {v : Nat} (h : 1 ≤ v ∧ v ≤ 40) : ∃ n r : Int, barscanref17_Codewords.f 10 (v : Int) = some (n, r, 0) ∧ (0 ≤ n ∧ n ≤ 4000 ∧ 0 ≤ r ∧ r ≤ 7) ∧
    ((gridL (v : Int) (sd (v : Int) * sd (v : Int))).count 1 : Int) = 8 * n + r ∧ (gridL (v : Int) (sd (v : Int) * sd (v : Int))).count 2 = 192 ∧ (gridL (v : Int) (sd (v : Int) * sd (v : Int))).count 4 = alignN (alg (v : Int)).length ∧
    (gridL (v : Int) (sd (v : Int) * sd (v : Int))).count 5 = 30 ∧ (gridL (v : Int) (sd (v : Int) * sd (v : Int))).count 6 = infoN v ∧ (gridL (v : Int) (sd (v : Int) * sd (v : Int))).count 7 = 1 := by
  have t := table ⟨v - 1, by omega⟩
  simp only [show v - 1 + 1 = v by omega] at t
  cases hf : barscanref17_Codewords.f 10 (v : Int) with
  | none => rw [hf] at t; exact absurd t (by simp)
  | some q =>
    obtain ⟨n, r, e⟩ := q
    rw [hf] at t
    replace t : (decide (0 ≤ n ∧ n ≤ 4000 ∧ 0 ≤ r ∧ r ≤ 7 ∧ e = 0) && Nat.beq (numT.getD (v - 1) 0) ((8 * n + r).toNat * 1000000 + 192 * 1000000 ^ 2 + timN v * 1000000 ^ 3 + alignN (alg (v : Int)).length * 1000000 ^ 4 + 30 * 1000000 ^ 5 + infoN v * 1000000 ^ 6 + 1 * 1000000 ^ 7)) = true := t
    rw [Bool.and_eq_true, decide_eq_true_eq] at t
    obtain ⟨⟨t1, t2, t3, t4, rfl⟩, t5⟩ := t
    have t5 := Nat.eq_of_beq_eq_true t5
    have h1 := pk_grid h (17 + 4 * v)
    rw [cnt_all h, t5, show (17 + 4 * v) * (17 + 4 * v) = sd (v : Int) * sd (v : Int) by rw [sd_nat]] at h1
    have h2 := pk_counts _ (grid_range h (sd (v : Int) * sd (v : Int)))
    have hlen := gridL_len (v : Int) (sd (v : Int) * sd (v : Int))
    have hm : sd (v : Int) * sd (v : Int) ≤ 177 * 177 := by rw [sd_nat]; exact Nat.mul_le_mul (by omega) (by omega)
    have hc := fun c => count_le_len (gridL (v : Int) (sd (v : Int) * sd (v : Int))) c
    have c1 := hc 1; have c2 := hc 2; have c3 := hc 3; have c4 := hc 4; have c5 := hc 5; have c6 := hc 6
    have hal : alignN (alg (v : Int)).length < 1000000 := by
      have := (al_ok ⟨v - 1, by omega⟩).1
      simp only [show v - 1 + 1 = v by omega] at this
      unfold alignN
      have hq : (alg (v : Int)).length * (alg (v : Int)).length ≤ 7 * 7 := Nat.mul_le_mul this this
      split <;> omega
    have hin : infoN v < 1000000 := by unfold infoN; split <;> omega
    have hti : timN v < 1000000 := Nat.mod_lt _ (by omega)
    rw [h1] at h2
    have := digits (by refine ⟨?_, ?_, hti, hal, ?_, hin⟩ <;> omega) (by refine ⟨?_, ?_, ?_, ?_, ?_, ?_⟩ <;> omega) h2
    refine ⟨n, r, rfl, ⟨t1, t2, t3, t4⟩, ?_⟩
    omega
end Go.Proofs.Ytbbnagjfjgkgjaa.Pure
