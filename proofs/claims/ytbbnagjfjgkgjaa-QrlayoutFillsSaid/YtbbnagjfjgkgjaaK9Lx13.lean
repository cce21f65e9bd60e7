-- Written by a program of this session out of the kit's print of the loaded functions (see wip/).
import Derived.Test.YtbbnagjfjgkgjaaK9Lx0
namespace Go.Proofs.Ytbbnagjfjgkgjaa.L
open Go.RowKit Go.Proofs.YtbbnagjfjgkgjaaW.PrintWords Go.Proofs.YtbbnagjfjgkgjaaW.PrintLast Go.Proofs.YtbbnagjfjgkgjaaW.PrintMore
attribute [local go_sem] max2_int min2_int max_two min_two max_three min_three max_four min_four   -- for this text's walks alone
set_option linter.unusedVariables false
set_option linter.unusedSimpArgs false

mutual
def barscanref20_aligned.l0 : Nat → List Int → Int → Int → Int → Int → Option (Int × Int × Bool)
 | 0, _, _, _, _, _ => none
 | k + 1, x0, x1, x2, x3, x11 => if x11 < (x0.length : Int) then (barscanref20_aligned.l1 k x0 x1 x2 x3 x11 0) else (some (0, 0, false))
def barscanref20_aligned.l1 : Nat → List Int → Int → Int → Int → Int → Int → Option (Int × Int × Bool)
 | 0, _, _, _, _, _, _ => none
 | k + 1, x0, x1, x2, x3, x11, x12 => if x12 < (x0.length : Int) then (if 0 ≤ x11 then (if x11 < (x0.length : Int) then (if 0 ≤ x12 then (if (rd x0 x11) = 6 then (if (rd x0 x12) = 6 then (barscanref20_aligned.l1 k x0 x1 x2 x3 x11 (wrap64 (x12 + 1))) else (if (rd x0 x12) = (wrap64 (x1 - 7)) then (barscanref20_aligned.l1 k x0 x1 x2 x3 x11 (wrap64 (x12 + 1))) else (if (rd x0 x11) = (wrap64 (x1 - 7)) then (if ((rd x0 x12) = 6) then (barscanref20_aligned.l1 k x0 x1 x2 x3 x11 (wrap64 (x12 + 1))) else (if x2 ≥ (wrap64 ((rd x0 x11) - 2)) then (if x2 ≤ (wrap64 ((rd x0 x11) + 2)) then (if x3 ≥ (wrap64 ((rd x0 x12) - 2)) then (if x3 ≤ (wrap64 ((rd x0 x12) + 2)) then (some (rd x0 x11, rd x0 x12, true)) else (barscanref20_aligned.l1 k x0 x1 x2 x3 x11 (wrap64 (x12 + 1)))) else (barscanref20_aligned.l1 k x0 x1 x2 x3 x11 (wrap64 (x12 + 1)))) else (barscanref20_aligned.l1 k x0 x1 x2 x3 x11 (wrap64 (x12 + 1)))) else (barscanref20_aligned.l1 k x0 x1 x2 x3 x11 (wrap64 (x12 + 1))))) else (if x2 ≥ (wrap64 ((rd x0 x11) - 2)) then (if x2 ≤ (wrap64 ((rd x0 x11) + 2)) then (if x3 ≥ (wrap64 ((rd x0 x12) - 2)) then (if x3 ≤ (wrap64 ((rd x0 x12) + 2)) then (some (rd x0 x11, rd x0 x12, true)) else (barscanref20_aligned.l1 k x0 x1 x2 x3 x11 (wrap64 (x12 + 1)))) else (barscanref20_aligned.l1 k x0 x1 x2 x3 x11 (wrap64 (x12 + 1)))) else (barscanref20_aligned.l1 k x0 x1 x2 x3 x11 (wrap64 (x12 + 1)))) else (barscanref20_aligned.l1 k x0 x1 x2 x3 x11 (wrap64 (x12 + 1))))))) else (if (rd x0 x11) = (wrap64 (x1 - 7)) then (if ((rd x0 x12) = 6) then (barscanref20_aligned.l1 k x0 x1 x2 x3 x11 (wrap64 (x12 + 1))) else (if x2 ≥ (wrap64 ((rd x0 x11) - 2)) then (if x2 ≤ (wrap64 ((rd x0 x11) + 2)) then (if x3 ≥ (wrap64 ((rd x0 x12) - 2)) then (if x3 ≤ (wrap64 ((rd x0 x12) + 2)) then (some (rd x0 x11, rd x0 x12, true)) else (barscanref20_aligned.l1 k x0 x1 x2 x3 x11 (wrap64 (x12 + 1)))) else (barscanref20_aligned.l1 k x0 x1 x2 x3 x11 (wrap64 (x12 + 1)))) else (barscanref20_aligned.l1 k x0 x1 x2 x3 x11 (wrap64 (x12 + 1)))) else (barscanref20_aligned.l1 k x0 x1 x2 x3 x11 (wrap64 (x12 + 1))))) else (if x2 ≥ (wrap64 ((rd x0 x11) - 2)) then (if x2 ≤ (wrap64 ((rd x0 x11) + 2)) then (if x3 ≥ (wrap64 ((rd x0 x12) - 2)) then (if x3 ≤ (wrap64 ((rd x0 x12) + 2)) then (some (rd x0 x11, rd x0 x12, true)) else (barscanref20_aligned.l1 k x0 x1 x2 x3 x11 (wrap64 (x12 + 1)))) else (barscanref20_aligned.l1 k x0 x1 x2 x3 x11 (wrap64 (x12 + 1)))) else (barscanref20_aligned.l1 k x0 x1 x2 x3 x11 (wrap64 (x12 + 1)))) else (barscanref20_aligned.l1 k x0 x1 x2 x3 x11 (wrap64 (x12 + 1)))))) else (none)) else (none)) else (none)) else (barscanref20_aligned.l0 k x0 x1 x2 x3 (wrap64 (x11 + 1)))
end
def barscanref20_aligned.f (k : Nat) (l0 : List Int) (a1 : Int) (a2 : Int) (a3 : Int) : Option (Int × Int × Bool) := barscanref20_aligned.l0 k l0 a1 a2 a3 0
set_option maxHeartbeats 8000000 in
set_option maxRecDepth 100000 in
theorem barscanref20_aligned.calls (k : Nat) (A0 : Option Addr) (c0 : Nat) (l0 : List Int) (a1 : Int) (a2 : Int) (a3 : Int) (r1 : Int) (r2 : Int) (r3 : Bool) (w : World) (hr0 : Kd.C (Kd.int .i64) w A0 l0.length l0) (hc0 : l0.length ≤ c0) (h : barscanref20_aligned.f k l0 a1 a2 a3 = some (r1, r2, r3)) :
  Calls Try.prog 72 #[.slice A0 l0.length c0, .int .i64 a1, .int .i64 a2, .int .i64 a3] w fun e w' => e = .returned (.tuple #[.int .i64 r1, .int .i64 r2, .bool r3]) ∧ Drawn0 w w' := by
 have HR0 := Aside0.mk hr0
 have HC0 := Aside0.mk hc0
 clear hr0 hc0
 have H : (barscanref20_aligned.l0 k l0 a1 a2 a3 0) = some (r1, r2, r3) := h
 clear h
 have H' := Aside0.mk H
 clear H
 go_enter Try.func72, Try.ntmps72
 go_wp2
 repeat (go_quiet (fail); try go_wp2)
 go_loopg [11] k (fun kq v11 w' => ∃ (x11_1 : Int), v11 = .int .i64 x11_1 ∧ Aside0 (barscanref20_aligned.l0 kq l0 a1 a2 a3 x11_1 = some (r1, r2, r3)) ∧ Aside0 (kq ≤ k) ∧ Drawn0 w w')
 case atStart => exact ⟨(0), smpA, H', ⟨Nat.le_refl _⟩, by repeat (first | exact Drawn0.refl _ | apply Drawn0.step)⟩
 case round =>
  clear H'
  try clear p2
  obtain ⟨x11_1, rfl, HA, HK1, ⟨m1, rfl⟩⟩ := hrel
  cases gk with
  | zero => exact absurd HA.out (by simp [barscanref20_aligned.l0])
  | succ k1 =>
   have H := HA.out
   clear HA
   simp only [barscanref20_aligned.l0] at H
   by_cases c5 : x11_1 < (l0.length : Int)
   ·rw [if_pos c5] at H
    have c5b0 : decide (x11_1 < (l0.length : Int)) = true := decide_eq_true c5
    clear c5
    have H' := Aside0.mk H
    clear H
    go_wp2
    repeat (go_quiet (fail); try go_wp2)
    go_loopg [12] k1 (fun kq v12 w' => ∃ (x12_2 : Int), v12 = .int .i64 x12_2 ∧ Aside0 (barscanref20_aligned.l1 kq l0 a1 a2 a3 x11_1 x12_2 = some (r1, r2, r3)) ∧ Aside0 (kq ≤ k1) ∧ Drawn0 w w')
    case atStart => exact ⟨(0), smpA, H', ⟨Nat.le_refl _⟩, by repeat (first | exact Drawn0.refl _ | apply Drawn0.step)⟩
    case round =>
     clear H'
     try clear p2
     try clear c5
     try clear c5b0
     try clear p2
     obtain ⟨x12_2, rfl, HA, HK2, ⟨m2, rfl⟩⟩ := hrel
     cases gk with
     | zero => exact absurd HA.out (by simp [barscanref20_aligned.l1])
     | succ k2 =>
      have H := HA.out
      clear HA
      simp only [barscanref20_aligned.l1] at H
      by_cases c6 : x12_2 < (l0.length : Int)
      ·rw [if_pos c6] at H
       have c6b0 : decide (x12_2 < (l0.length : Int)) = true := decide_eq_true c6
       clear c6
       by_cases c7 : 0 ≤ x11_1
       ·rw [if_pos c7] at H
        have c7b0 : decide (0 ≤ x11_1) = true := decide_eq_true c7
        clear c7
        by_cases c8 : x11_1 < (l0.length : Int)
        ·rw [if_pos c8] at H
         have c8b0 : decide (x11_1 < (l0.length : Int)) = true := decide_eq_true c8
         clear c8
         by_cases c9 : 0 ≤ x12_2
         ·rw [if_pos c9] at H
          have c9b0 : decide (0 ≤ x12_2) = true := decide_eq_true c9
          clear c9
          by_cases c10 : (rd l0 x11_1) = 6
          ·rw [if_pos c10] at H
           have c10b0 : ((rd l0 x11_1) == 6) = true := beq_iff_eq.mpr c10
           have c10b1 : ((rd l0 x11_1) != 6) = false := bne_eq_false_iff_eq.mpr c10
           clear c10
           by_cases c11 : (rd l0 x12_2) = 6
           ·rw [if_pos c11] at H
            have c11b0 : ((rd l0 x12_2) == 6) = true := beq_iff_eq.mpr c11
            have c11b1 : ((rd l0 x12_2) != 6) = false := bne_eq_false_iff_eq.mpr c11
            clear c11
            have H' := Aside0.mk H
            clear H
            have p302 : 0 ≤ (x11_1 : Int) := of_decide_eq_true (by first | (with_reducible assumption) | assumption)
            have q302 : x11_1 < (l0.length : Int) := of_decide_eq_true (by first | (with_reducible assumption) | assumption)
            obtain ⟨ad302, e302, hx302_0⟩ := Kd.at_int HR0.out x11_1 p302 q302
            cases e302
            replace p302 := eq_true p302
            replace q302 := eq_true q302
            have p303 : 0 ≤ (x12_2 : Int) := of_decide_eq_true (by first | (with_reducible assumption) | assumption)
            have q303 : x12_2 < (l0.length : Int) := of_decide_eq_true (by first | (with_reducible assumption) | assumption)
            obtain ⟨ad303, e303, hx303_0⟩ := Kd.at_int HR0.out x12_2 p303 q303
            obtain rfl : ad302 = ad303 := (by injection e303)
            replace p303 := eq_true p303
            replace q303 := eq_true q303
            go_wp2
            repeat (go_quiet (fail); try go_wp2)
            go_roundg k2
            case measure => have := HK1.out; have := HK2.out; omega
            case rel => exact ⟨(wrap64 (x12_2 + 1)), smpA, H', ⟨by have := HK1.out; have := HK2.out; omega⟩, by repeat (first | exact Drawn0.refl _ | apply Drawn0.step)⟩
           ·rw [if_neg c11] at H
            have c11b0 : ((rd l0 x12_2) == 6) = false := beq_eq_false_iff_ne.mpr c11
            have c11b1 : ((rd l0 x12_2) != 6) = true := bne_iff_ne.mpr c11
            by_cases c12 : (rd l0 x12_2) = (wrap64 (a1 - 7))
            ·rw [if_pos c12] at H
             have c12b0 : ((rd l0 x12_2) == (wrap64 (a1 - 7))) = true := beq_iff_eq.mpr c12
             have c12b1 : ((rd l0 x12_2) != (wrap64 (a1 - 7))) = false := bne_eq_false_iff_eq.mpr c12
             clear c12
             have H' := Aside0.mk H
             clear H
             have p302 : 0 ≤ (x11_1 : Int) := of_decide_eq_true (by first | (with_reducible assumption) | assumption)
             have q302 : x11_1 < (l0.length : Int) := of_decide_eq_true (by first | (with_reducible assumption) | assumption)
             obtain ⟨ad302, e302, hx302_0⟩ := Kd.at_int HR0.out x11_1 p302 q302
             cases e302
             replace p302 := eq_true p302
             replace q302 := eq_true q302
             have p303 : 0 ≤ (x12_2 : Int) := of_decide_eq_true (by first | (with_reducible assumption) | assumption)
             have q303 : x12_2 < (l0.length : Int) := of_decide_eq_true (by first | (with_reducible assumption) | assumption)
             obtain ⟨ad303, e303, hx303_0⟩ := Kd.at_int HR0.out x12_2 p303 q303
             obtain rfl : ad302 = ad303 := (by injection e303)
             replace p303 := eq_true p303
             replace q303 := eq_true q303
             go_wp2
             repeat (go_quiet (fail); try go_wp2)
             go_roundg k2
             case measure => have := HK1.out; have := HK2.out; omega
             case rel => exact ⟨(wrap64 (x12_2 + 1)), smpA, H', ⟨by have := HK1.out; have := HK2.out; omega⟩, by repeat (first | exact Drawn0.refl _ | apply Drawn0.step)⟩
            ·rw [if_neg c12] at H
             have c12b0 : ((rd l0 x12_2) == (wrap64 (a1 - 7))) = false := beq_eq_false_iff_ne.mpr c12
             have c12b1 : ((rd l0 x12_2) != (wrap64 (a1 - 7))) = true := bne_iff_ne.mpr c12
             by_cases c13 : (rd l0 x11_1) = (wrap64 (a1 - 7))
             ·rw [if_pos c13] at H
              have c13b0 : ((rd l0 x11_1) == (wrap64 (a1 - 7))) = true := beq_iff_eq.mpr c13
              have c13b1 : ((rd l0 x11_1) != (wrap64 (a1 - 7))) = false := bne_eq_false_iff_eq.mpr c13
              clear c13
              by_cases c14 : ((rd l0 x12_2) = 6)
              ·exact absurd ((beq_iff_eq.mpr c14).symm.trans c11b0) (by decide)
              ·rw [if_neg c14] at H
               have c14b0 : ((rd l0 x12_2) == 6) = false := beq_eq_false_iff_ne.mpr c14
               have c14b1 : ((rd l0 x12_2) != 6) = true := bne_iff_ne.mpr c14
               by_cases c15 : a2 ≥ (wrap64 ((rd l0 x11_1) - 2))
               ·rw [if_pos c15] at H
                have c15b0 : decide ((wrap64 ((rd l0 x11_1) - 2)) ≤ a2) = true := decide_eq_true c15
                clear c15
                by_cases c16 : a2 ≤ (wrap64 ((rd l0 x11_1) + 2))
                ·rw [if_pos c16] at H
                 have c16b0 : decide (a2 ≤ (wrap64 ((rd l0 x11_1) + 2))) = true := decide_eq_true c16
                 clear c16
                 by_cases c17 : a3 ≥ (wrap64 ((rd l0 x12_2) - 2))
                 ·rw [if_pos c17] at H
                  have c17b0 : decide ((wrap64 ((rd l0 x12_2) - 2)) ≤ a3) = true := decide_eq_true c17
                  clear c17
                  by_cases c18 : a3 ≤ (wrap64 ((rd l0 x12_2) + 2))
                  ·rw [if_pos c18] at H
                   have c18b0 : decide (a3 ≤ (wrap64 ((rd l0 x12_2) + 2))) = true := decide_eq_true c18
                   clear c18
                   simp only [Option.some.injEq, Prod.mk.injEq] at H
                   obtain ⟨rfl, rfl, rfl⟩ := H
                   have p302 : 0 ≤ (x11_1 : Int) := of_decide_eq_true (by first | (with_reducible assumption) | assumption)
                   have q302 : x11_1 < (l0.length : Int) := of_decide_eq_true (by first | (with_reducible assumption) | assumption)
                   obtain ⟨ad302, e302, hx302_0⟩ := Kd.at_int HR0.out x11_1 p302 q302
                   cases e302
                   replace p302 := eq_true p302
                   replace q302 := eq_true q302
                   have p303 : 0 ≤ (x12_2 : Int) := of_decide_eq_true (by first | (with_reducible assumption) | assumption)
                   have q303 : x12_2 < (l0.length : Int) := of_decide_eq_true (by first | (with_reducible assumption) | assumption)
                   obtain ⟨ad303, e303, hx303_0⟩ := Kd.at_int HR0.out x12_2 p303 q303
                   obtain rfl : ad302 = ad303 := (by injection e303)
                   replace p303 := eq_true p303
                   replace q303 := eq_true q303
                   go_wp2
                   repeat (go_quiet (fail); try go_wp2)
                   go_ret3
                   exact ⟨by first | rfl | (simp; done) | (simp [*]; done), by repeat (first | exact Drawn0.refl _ | apply Drawn0.step)⟩
                  ·rw [if_neg c18] at H
                   have c18b0 : decide (a3 ≤ (wrap64 ((rd l0 x12_2) + 2))) = false := decide_eq_false c18
                   clear c18
                   have H' := Aside0.mk H
                   clear H
                   have p302 : 0 ≤ (x11_1 : Int) := of_decide_eq_true (by first | (with_reducible assumption) | assumption)
                   have q302 : x11_1 < (l0.length : Int) := of_decide_eq_true (by first | (with_reducible assumption) | assumption)
                   obtain ⟨ad302, e302, hx302_0⟩ := Kd.at_int HR0.out x11_1 p302 q302
                   cases e302
                   replace p302 := eq_true p302
                   replace q302 := eq_true q302
                   have p303 : 0 ≤ (x12_2 : Int) := of_decide_eq_true (by first | (with_reducible assumption) | assumption)
                   have q303 : x12_2 < (l0.length : Int) := of_decide_eq_true (by first | (with_reducible assumption) | assumption)
                   obtain ⟨ad303, e303, hx303_0⟩ := Kd.at_int HR0.out x12_2 p303 q303
                   obtain rfl : ad302 = ad303 := (by injection e303)
                   replace p303 := eq_true p303
                   replace q303 := eq_true q303
                   go_wp2
                   repeat (go_quiet (fail); try go_wp2)
                   go_roundg k2
                   case measure => have := HK1.out; have := HK2.out; omega
                   case rel => exact ⟨(wrap64 (x12_2 + 1)), smpA, H', ⟨by have := HK1.out; have := HK2.out; omega⟩, by repeat (first | exact Drawn0.refl _ | apply Drawn0.step)⟩
                 ·rw [if_neg c17] at H
                  have c17b0 : decide ((wrap64 ((rd l0 x12_2) - 2)) ≤ a3) = false := decide_eq_false c17
                  clear c17
                  have H' := Aside0.mk H
                  clear H
                  have p302 : 0 ≤ (x11_1 : Int) := of_decide_eq_true (by first | (with_reducible assumption) | assumption)
                  have q302 : x11_1 < (l0.length : Int) := of_decide_eq_true (by first | (with_reducible assumption) | assumption)
                  obtain ⟨ad302, e302, hx302_0⟩ := Kd.at_int HR0.out x11_1 p302 q302
                  cases e302
                  replace p302 := eq_true p302
                  replace q302 := eq_true q302
                  have p303 : 0 ≤ (x12_2 : Int) := of_decide_eq_true (by first | (with_reducible assumption) | assumption)
                  have q303 : x12_2 < (l0.length : Int) := of_decide_eq_true (by first | (with_reducible assumption) | assumption)
                  obtain ⟨ad303, e303, hx303_0⟩ := Kd.at_int HR0.out x12_2 p303 q303
                  obtain rfl : ad302 = ad303 := (by injection e303)
                  replace p303 := eq_true p303
                  replace q303 := eq_true q303
                  go_wp2
                  repeat (go_quiet (fail); try go_wp2)
                  go_roundg k2
                  case measure => have := HK1.out; have := HK2.out; omega
                  case rel => exact ⟨(wrap64 (x12_2 + 1)), smpA, H', ⟨by have := HK1.out; have := HK2.out; omega⟩, by repeat (first | exact Drawn0.refl _ | apply Drawn0.step)⟩
                ·rw [if_neg c16] at H
                 have c16b0 : decide (a2 ≤ (wrap64 ((rd l0 x11_1) + 2))) = false := decide_eq_false c16
                 clear c16
                 have H' := Aside0.mk H
                 clear H
                 have p302 : 0 ≤ (x11_1 : Int) := of_decide_eq_true (by first | (with_reducible assumption) | assumption)
                 have q302 : x11_1 < (l0.length : Int) := of_decide_eq_true (by first | (with_reducible assumption) | assumption)
                 obtain ⟨ad302, e302, hx302_0⟩ := Kd.at_int HR0.out x11_1 p302 q302
                 cases e302
                 replace p302 := eq_true p302
                 replace q302 := eq_true q302
                 have p303 : 0 ≤ (x12_2 : Int) := of_decide_eq_true (by first | (with_reducible assumption) | assumption)
                 have q303 : x12_2 < (l0.length : Int) := of_decide_eq_true (by first | (with_reducible assumption) | assumption)
                 obtain ⟨ad303, e303, hx303_0⟩ := Kd.at_int HR0.out x12_2 p303 q303
                 obtain rfl : ad302 = ad303 := (by injection e303)
                 replace p303 := eq_true p303
                 replace q303 := eq_true q303
                 go_wp2
                 repeat (go_quiet (fail); try go_wp2)
                 go_roundg k2
                 case measure => have := HK1.out; have := HK2.out; omega
                 case rel => exact ⟨(wrap64 (x12_2 + 1)), smpA, H', ⟨by have := HK1.out; have := HK2.out; omega⟩, by repeat (first | exact Drawn0.refl _ | apply Drawn0.step)⟩
               ·rw [if_neg c15] at H
                have c15b0 : decide ((wrap64 ((rd l0 x11_1) - 2)) ≤ a2) = false := decide_eq_false c15
                clear c15
                have H' := Aside0.mk H
                clear H
                have p302 : 0 ≤ (x11_1 : Int) := of_decide_eq_true (by first | (with_reducible assumption) | assumption)
                have q302 : x11_1 < (l0.length : Int) := of_decide_eq_true (by first | (with_reducible assumption) | assumption)
                obtain ⟨ad302, e302, hx302_0⟩ := Kd.at_int HR0.out x11_1 p302 q302
                cases e302
                replace p302 := eq_true p302
                replace q302 := eq_true q302
                have p303 : 0 ≤ (x12_2 : Int) := of_decide_eq_true (by first | (with_reducible assumption) | assumption)
                have q303 : x12_2 < (l0.length : Int) := of_decide_eq_true (by first | (with_reducible assumption) | assumption)
                obtain ⟨ad303, e303, hx303_0⟩ := Kd.at_int HR0.out x12_2 p303 q303
                obtain rfl : ad302 = ad303 := (by injection e303)
                replace p303 := eq_true p303
                replace q303 := eq_true q303
                go_wp2
                repeat (go_quiet (fail); try go_wp2)
                go_roundg k2
                case measure => have := HK1.out; have := HK2.out; omega
                case rel => exact ⟨(wrap64 (x12_2 + 1)), smpA, H', ⟨by have := HK1.out; have := HK2.out; omega⟩, by repeat (first | exact Drawn0.refl _ | apply Drawn0.step)⟩
             ·rw [if_neg c13] at H
              have c13b0 : ((rd l0 x11_1) == (wrap64 (a1 - 7))) = false := beq_eq_false_iff_ne.mpr c13
              have c13b1 : ((rd l0 x11_1) != (wrap64 (a1 - 7))) = true := bne_iff_ne.mpr c13
              by_cases c19 : a2 ≥ (wrap64 ((rd l0 x11_1) - 2))
              ·rw [if_pos c19] at H
               have c19b0 : decide ((wrap64 ((rd l0 x11_1) - 2)) ≤ a2) = true := decide_eq_true c19
               clear c19
               by_cases c20 : a2 ≤ (wrap64 ((rd l0 x11_1) + 2))
               ·rw [if_pos c20] at H
                have c20b0 : decide (a2 ≤ (wrap64 ((rd l0 x11_1) + 2))) = true := decide_eq_true c20
                clear c20
                by_cases c21 : a3 ≥ (wrap64 ((rd l0 x12_2) - 2))
                ·rw [if_pos c21] at H
                 have c21b0 : decide ((wrap64 ((rd l0 x12_2) - 2)) ≤ a3) = true := decide_eq_true c21
                 clear c21
                 by_cases c22 : a3 ≤ (wrap64 ((rd l0 x12_2) + 2))
                 ·rw [if_pos c22] at H
                  have c22b0 : decide (a3 ≤ (wrap64 ((rd l0 x12_2) + 2))) = true := decide_eq_true c22
                  clear c22
                  simp only [Option.some.injEq, Prod.mk.injEq] at H
                  obtain ⟨rfl, rfl, rfl⟩ := H
                  have p302 : 0 ≤ (x11_1 : Int) := of_decide_eq_true (by first | (with_reducible assumption) | assumption)
                  have q302 : x11_1 < (l0.length : Int) := of_decide_eq_true (by first | (with_reducible assumption) | assumption)
                  obtain ⟨ad302, e302, hx302_0⟩ := Kd.at_int HR0.out x11_1 p302 q302
                  cases e302
                  replace p302 := eq_true p302
                  replace q302 := eq_true q302
                  have p303 : 0 ≤ (x12_2 : Int) := of_decide_eq_true (by first | (with_reducible assumption) | assumption)
                  have q303 : x12_2 < (l0.length : Int) := of_decide_eq_true (by first | (with_reducible assumption) | assumption)
                  obtain ⟨ad303, e303, hx303_0⟩ := Kd.at_int HR0.out x12_2 p303 q303
                  obtain rfl : ad302 = ad303 := (by injection e303)
                  replace p303 := eq_true p303
                  replace q303 := eq_true q303
                  go_wp2
                  repeat (go_quiet (fail); try go_wp2)
                  go_ret3
                  exact ⟨by first | rfl | (simp; done) | (simp [*]; done), by repeat (first | exact Drawn0.refl _ | apply Drawn0.step)⟩
                 ·rw [if_neg c22] at H
                  have c22b0 : decide (a3 ≤ (wrap64 ((rd l0 x12_2) + 2))) = false := decide_eq_false c22
                  clear c22
                  have H' := Aside0.mk H
                  clear H
                  have p302 : 0 ≤ (x11_1 : Int) := of_decide_eq_true (by first | (with_reducible assumption) | assumption)
                  have q302 : x11_1 < (l0.length : Int) := of_decide_eq_true (by first | (with_reducible assumption) | assumption)
                  obtain ⟨ad302, e302, hx302_0⟩ := Kd.at_int HR0.out x11_1 p302 q302
                  cases e302
                  replace p302 := eq_true p302
                  replace q302 := eq_true q302
                  have p303 : 0 ≤ (x12_2 : Int) := of_decide_eq_true (by first | (with_reducible assumption) | assumption)
                  have q303 : x12_2 < (l0.length : Int) := of_decide_eq_true (by first | (with_reducible assumption) | assumption)
                  obtain ⟨ad303, e303, hx303_0⟩ := Kd.at_int HR0.out x12_2 p303 q303
                  obtain rfl : ad302 = ad303 := (by injection e303)
                  replace p303 := eq_true p303
                  replace q303 := eq_true q303
                  go_wp2
                  repeat (go_quiet (fail); try go_wp2)
                  go_roundg k2
                  case measure => have := HK1.out; have := HK2.out; omega
                  case rel => exact ⟨(wrap64 (x12_2 + 1)), smpA, H', ⟨by have := HK1.out; have := HK2.out; omega⟩, by repeat (first | exact Drawn0.refl _ | apply Drawn0.step)⟩
                ·rw [if_neg c21] at H
                 have c21b0 : decide ((wrap64 ((rd l0 x12_2) - 2)) ≤ a3) = false := decide_eq_false c21
                 clear c21
                 have H' := Aside0.mk H
                 clear H
                 have p302 : 0 ≤ (x11_1 : Int) := of_decide_eq_true (by first | (with_reducible assumption) | assumption)
                 have q302 : x11_1 < (l0.length : Int) := of_decide_eq_true (by first | (with_reducible assumption) | assumption)
                 obtain ⟨ad302, e302, hx302_0⟩ := Kd.at_int HR0.out x11_1 p302 q302
                 cases e302
                 replace p302 := eq_true p302
                 replace q302 := eq_true q302
                 have p303 : 0 ≤ (x12_2 : Int) := of_decide_eq_true (by first | (with_reducible assumption) | assumption)
                 have q303 : x12_2 < (l0.length : Int) := of_decide_eq_true (by first | (with_reducible assumption) | assumption)
                 obtain ⟨ad303, e303, hx303_0⟩ := Kd.at_int HR0.out x12_2 p303 q303
                 obtain rfl : ad302 = ad303 := (by injection e303)
                 replace p303 := eq_true p303
                 replace q303 := eq_true q303
                 go_wp2
                 repeat (go_quiet (fail); try go_wp2)
                 go_roundg k2
                 case measure => have := HK1.out; have := HK2.out; omega
                 case rel => exact ⟨(wrap64 (x12_2 + 1)), smpA, H', ⟨by have := HK1.out; have := HK2.out; omega⟩, by repeat (first | exact Drawn0.refl _ | apply Drawn0.step)⟩
               ·rw [if_neg c20] at H
                have c20b0 : decide (a2 ≤ (wrap64 ((rd l0 x11_1) + 2))) = false := decide_eq_false c20
                clear c20
                have H' := Aside0.mk H
                clear H
                have p302 : 0 ≤ (x11_1 : Int) := of_decide_eq_true (by first | (with_reducible assumption) | assumption)
                have q302 : x11_1 < (l0.length : Int) := of_decide_eq_true (by first | (with_reducible assumption) | assumption)
                obtain ⟨ad302, e302, hx302_0⟩ := Kd.at_int HR0.out x11_1 p302 q302
                cases e302
                replace p302 := eq_true p302
                replace q302 := eq_true q302
                have p303 : 0 ≤ (x12_2 : Int) := of_decide_eq_true (by first | (with_reducible assumption) | assumption)
                have q303 : x12_2 < (l0.length : Int) := of_decide_eq_true (by first | (with_reducible assumption) | assumption)
                obtain ⟨ad303, e303, hx303_0⟩ := Kd.at_int HR0.out x12_2 p303 q303
                obtain rfl : ad302 = ad303 := (by injection e303)
                replace p303 := eq_true p303
                replace q303 := eq_true q303
                go_wp2
                repeat (go_quiet (fail); try go_wp2)
                go_roundg k2
                case measure => have := HK1.out; have := HK2.out; omega
                case rel => exact ⟨(wrap64 (x12_2 + 1)), smpA, H', ⟨by have := HK1.out; have := HK2.out; omega⟩, by repeat (first | exact Drawn0.refl _ | apply Drawn0.step)⟩
              ·rw [if_neg c19] at H
               have c19b0 : decide ((wrap64 ((rd l0 x11_1) - 2)) ≤ a2) = false := decide_eq_false c19
               clear c19
               have H' := Aside0.mk H
               clear H
               have p302 : 0 ≤ (x11_1 : Int) := of_decide_eq_true (by first | (with_reducible assumption) | assumption)
               have q302 : x11_1 < (l0.length : Int) := of_decide_eq_true (by first | (with_reducible assumption) | assumption)
               obtain ⟨ad302, e302, hx302_0⟩ := Kd.at_int HR0.out x11_1 p302 q302
               cases e302
               replace p302 := eq_true p302
               replace q302 := eq_true q302
               have p303 : 0 ≤ (x12_2 : Int) := of_decide_eq_true (by first | (with_reducible assumption) | assumption)
               have q303 : x12_2 < (l0.length : Int) := of_decide_eq_true (by first | (with_reducible assumption) | assumption)
               obtain ⟨ad303, e303, hx303_0⟩ := Kd.at_int HR0.out x12_2 p303 q303
               obtain rfl : ad302 = ad303 := (by injection e303)
               replace p303 := eq_true p303
               replace q303 := eq_true q303
               go_wp2
               repeat (go_quiet (fail); try go_wp2)
               go_roundg k2
               case measure => have := HK1.out; have := HK2.out; omega
               case rel => exact ⟨(wrap64 (x12_2 + 1)), smpA, H', ⟨by have := HK1.out; have := HK2.out; omega⟩, by repeat (first | exact Drawn0.refl _ | apply Drawn0.step)⟩
          ·rw [if_neg c10] at H
           have c10b0 : ((rd l0 x11_1) == 6) = false := beq_eq_false_iff_ne.mpr c10
           have c10b1 : ((rd l0 x11_1) != 6) = true := bne_iff_ne.mpr c10
           by_cases c23 : (rd l0 x11_1) = (wrap64 (a1 - 7))
           ·rw [if_pos c23] at H
            have c23b0 : ((rd l0 x11_1) == (wrap64 (a1 - 7))) = true := beq_iff_eq.mpr c23
            have c23b1 : ((rd l0 x11_1) != (wrap64 (a1 - 7))) = false := bne_eq_false_iff_eq.mpr c23
            clear c23
            by_cases c24 : ((rd l0 x12_2) = 6)
            ·rw [if_pos c24] at H
             have c24b0 : ((rd l0 x12_2) == 6) = true := beq_iff_eq.mpr c24
             have c24b1 : ((rd l0 x12_2) != 6) = false := bne_eq_false_iff_eq.mpr c24
             clear c24
             have H' := Aside0.mk H
             clear H
             have p302 : 0 ≤ (x11_1 : Int) := of_decide_eq_true (by first | (with_reducible assumption) | assumption)
             have q302 : x11_1 < (l0.length : Int) := of_decide_eq_true (by first | (with_reducible assumption) | assumption)
             obtain ⟨ad302, e302, hx302_0⟩ := Kd.at_int HR0.out x11_1 p302 q302
             cases e302
             replace p302 := eq_true p302
             replace q302 := eq_true q302
             have p303 : 0 ≤ (x12_2 : Int) := of_decide_eq_true (by first | (with_reducible assumption) | assumption)
             have q303 : x12_2 < (l0.length : Int) := of_decide_eq_true (by first | (with_reducible assumption) | assumption)
             obtain ⟨ad303, e303, hx303_0⟩ := Kd.at_int HR0.out x12_2 p303 q303
             obtain rfl : ad302 = ad303 := (by injection e303)
             replace p303 := eq_true p303
             replace q303 := eq_true q303
             go_wp2
             repeat (go_quiet (fail); try go_wp2)
             go_roundg k2
             case measure => have := HK1.out; have := HK2.out; omega
             case rel => exact ⟨(wrap64 (x12_2 + 1)), smpA, H', ⟨by have := HK1.out; have := HK2.out; omega⟩, by repeat (first | exact Drawn0.refl _ | apply Drawn0.step)⟩
            ·rw [if_neg c24] at H
             have c24b0 : ((rd l0 x12_2) == 6) = false := beq_eq_false_iff_ne.mpr c24
             have c24b1 : ((rd l0 x12_2) != 6) = true := bne_iff_ne.mpr c24
             by_cases c25 : a2 ≥ (wrap64 ((rd l0 x11_1) - 2))
             ·rw [if_pos c25] at H
              have c25b0 : decide ((wrap64 ((rd l0 x11_1) - 2)) ≤ a2) = true := decide_eq_true c25
              clear c25
              by_cases c26 : a2 ≤ (wrap64 ((rd l0 x11_1) + 2))
              ·rw [if_pos c26] at H
               have c26b0 : decide (a2 ≤ (wrap64 ((rd l0 x11_1) + 2))) = true := decide_eq_true c26
               clear c26
               by_cases c27 : a3 ≥ (wrap64 ((rd l0 x12_2) - 2))
               ·rw [if_pos c27] at H
                have c27b0 : decide ((wrap64 ((rd l0 x12_2) - 2)) ≤ a3) = true := decide_eq_true c27
                clear c27
                by_cases c28 : a3 ≤ (wrap64 ((rd l0 x12_2) + 2))
                ·rw [if_pos c28] at H
                 have c28b0 : decide (a3 ≤ (wrap64 ((rd l0 x12_2) + 2))) = true := decide_eq_true c28
                 clear c28
                 simp only [Option.some.injEq, Prod.mk.injEq] at H
                 obtain ⟨rfl, rfl, rfl⟩ := H
                 have p302 : 0 ≤ (x11_1 : Int) := of_decide_eq_true (by first | (with_reducible assumption) | assumption)
                 have q302 : x11_1 < (l0.length : Int) := of_decide_eq_true (by first | (with_reducible assumption) | assumption)
                 obtain ⟨ad302, e302, hx302_0⟩ := Kd.at_int HR0.out x11_1 p302 q302
                 cases e302
                 replace p302 := eq_true p302
                 replace q302 := eq_true q302
                 have p303 : 0 ≤ (x12_2 : Int) := of_decide_eq_true (by first | (with_reducible assumption) | assumption)
                 have q303 : x12_2 < (l0.length : Int) := of_decide_eq_true (by first | (with_reducible assumption) | assumption)
                 obtain ⟨ad303, e303, hx303_0⟩ := Kd.at_int HR0.out x12_2 p303 q303
                 obtain rfl : ad302 = ad303 := (by injection e303)
                 replace p303 := eq_true p303
                 replace q303 := eq_true q303
                 go_wp2
                 repeat (go_quiet (fail); try go_wp2)
                 go_ret3
                 exact ⟨by first | rfl | (simp; done) | (simp [*]; done), by repeat (first | exact Drawn0.refl _ | apply Drawn0.step)⟩
                ·rw [if_neg c28] at H
                 have c28b0 : decide (a3 ≤ (wrap64 ((rd l0 x12_2) + 2))) = false := decide_eq_false c28
                 clear c28
                 have H' := Aside0.mk H
                 clear H
                 have p302 : 0 ≤ (x11_1 : Int) := of_decide_eq_true (by first | (with_reducible assumption) | assumption)
                 have q302 : x11_1 < (l0.length : Int) := of_decide_eq_true (by first | (with_reducible assumption) | assumption)
                 obtain ⟨ad302, e302, hx302_0⟩ := Kd.at_int HR0.out x11_1 p302 q302
                 cases e302
                 replace p302 := eq_true p302
                 replace q302 := eq_true q302
                 have p303 : 0 ≤ (x12_2 : Int) := of_decide_eq_true (by first | (with_reducible assumption) | assumption)
                 have q303 : x12_2 < (l0.length : Int) := of_decide_eq_true (by first | (with_reducible assumption) | assumption)
                 obtain ⟨ad303, e303, hx303_0⟩ := Kd.at_int HR0.out x12_2 p303 q303
                 obtain rfl : ad302 = ad303 := (by injection e303)
                 replace p303 := eq_true p303
                 replace q303 := eq_true q303
                 go_wp2
                 repeat (go_quiet (fail); try go_wp2)
                 go_roundg k2
                 case measure => have := HK1.out; have := HK2.out; omega
                 case rel => exact ⟨(wrap64 (x12_2 + 1)), smpA, H', ⟨by have := HK1.out; have := HK2.out; omega⟩, by repeat (first | exact Drawn0.refl _ | apply Drawn0.step)⟩
               ·rw [if_neg c27] at H
                have c27b0 : decide ((wrap64 ((rd l0 x12_2) - 2)) ≤ a3) = false := decide_eq_false c27
                clear c27
                have H' := Aside0.mk H
                clear H
                have p302 : 0 ≤ (x11_1 : Int) := of_decide_eq_true (by first | (with_reducible assumption) | assumption)
                have q302 : x11_1 < (l0.length : Int) := of_decide_eq_true (by first | (with_reducible assumption) | assumption)
                obtain ⟨ad302, e302, hx302_0⟩ := Kd.at_int HR0.out x11_1 p302 q302
                cases e302
                replace p302 := eq_true p302
                replace q302 := eq_true q302
                have p303 : 0 ≤ (x12_2 : Int) := of_decide_eq_true (by first | (with_reducible assumption) | assumption)
                have q303 : x12_2 < (l0.length : Int) := of_decide_eq_true (by first | (with_reducible assumption) | assumption)
                obtain ⟨ad303, e303, hx303_0⟩ := Kd.at_int HR0.out x12_2 p303 q303
                obtain rfl : ad302 = ad303 := (by injection e303)
                replace p303 := eq_true p303
                replace q303 := eq_true q303
                go_wp2
                repeat (go_quiet (fail); try go_wp2)
                go_roundg k2
                case measure => have := HK1.out; have := HK2.out; omega
                case rel => exact ⟨(wrap64 (x12_2 + 1)), smpA, H', ⟨by have := HK1.out; have := HK2.out; omega⟩, by repeat (first | exact Drawn0.refl _ | apply Drawn0.step)⟩
              ·rw [if_neg c26] at H
               have c26b0 : decide (a2 ≤ (wrap64 ((rd l0 x11_1) + 2))) = false := decide_eq_false c26
               clear c26
               have H' := Aside0.mk H
               clear H
               have p302 : 0 ≤ (x11_1 : Int) := of_decide_eq_true (by first | (with_reducible assumption) | assumption)
               have q302 : x11_1 < (l0.length : Int) := of_decide_eq_true (by first | (with_reducible assumption) | assumption)
               obtain ⟨ad302, e302, hx302_0⟩ := Kd.at_int HR0.out x11_1 p302 q302
               cases e302
               replace p302 := eq_true p302
               replace q302 := eq_true q302
               have p303 : 0 ≤ (x12_2 : Int) := of_decide_eq_true (by first | (with_reducible assumption) | assumption)
               have q303 : x12_2 < (l0.length : Int) := of_decide_eq_true (by first | (with_reducible assumption) | assumption)
               obtain ⟨ad303, e303, hx303_0⟩ := Kd.at_int HR0.out x12_2 p303 q303
               obtain rfl : ad302 = ad303 := (by injection e303)
               replace p303 := eq_true p303
               replace q303 := eq_true q303
               go_wp2
               repeat (go_quiet (fail); try go_wp2)
               go_roundg k2
               case measure => have := HK1.out; have := HK2.out; omega
               case rel => exact ⟨(wrap64 (x12_2 + 1)), smpA, H', ⟨by have := HK1.out; have := HK2.out; omega⟩, by repeat (first | exact Drawn0.refl _ | apply Drawn0.step)⟩
             ·rw [if_neg c25] at H
              have c25b0 : decide ((wrap64 ((rd l0 x11_1) - 2)) ≤ a2) = false := decide_eq_false c25
              clear c25
              have H' := Aside0.mk H
              clear H
              have p302 : 0 ≤ (x11_1 : Int) := of_decide_eq_true (by first | (with_reducible assumption) | assumption)
              have q302 : x11_1 < (l0.length : Int) := of_decide_eq_true (by first | (with_reducible assumption) | assumption)
              obtain ⟨ad302, e302, hx302_0⟩ := Kd.at_int HR0.out x11_1 p302 q302
              cases e302
              replace p302 := eq_true p302
              replace q302 := eq_true q302
              have p303 : 0 ≤ (x12_2 : Int) := of_decide_eq_true (by first | (with_reducible assumption) | assumption)
              have q303 : x12_2 < (l0.length : Int) := of_decide_eq_true (by first | (with_reducible assumption) | assumption)
              obtain ⟨ad303, e303, hx303_0⟩ := Kd.at_int HR0.out x12_2 p303 q303
              obtain rfl : ad302 = ad303 := (by injection e303)
              replace p303 := eq_true p303
              replace q303 := eq_true q303
              go_wp2
              repeat (go_quiet (fail); try go_wp2)
              go_roundg k2
              case measure => have := HK1.out; have := HK2.out; omega
              case rel => exact ⟨(wrap64 (x12_2 + 1)), smpA, H', ⟨by have := HK1.out; have := HK2.out; omega⟩, by repeat (first | exact Drawn0.refl _ | apply Drawn0.step)⟩
           ·rw [if_neg c23] at H
            have c23b0 : ((rd l0 x11_1) == (wrap64 (a1 - 7))) = false := beq_eq_false_iff_ne.mpr c23
            have c23b1 : ((rd l0 x11_1) != (wrap64 (a1 - 7))) = true := bne_iff_ne.mpr c23
            by_cases c29 : a2 ≥ (wrap64 ((rd l0 x11_1) - 2))
            ·rw [if_pos c29] at H
             have c29b0 : decide ((wrap64 ((rd l0 x11_1) - 2)) ≤ a2) = true := decide_eq_true c29
             clear c29
             by_cases c30 : a2 ≤ (wrap64 ((rd l0 x11_1) + 2))
             ·rw [if_pos c30] at H
              have c30b0 : decide (a2 ≤ (wrap64 ((rd l0 x11_1) + 2))) = true := decide_eq_true c30
              clear c30
              by_cases c31 : a3 ≥ (wrap64 ((rd l0 x12_2) - 2))
              ·rw [if_pos c31] at H
               have c31b0 : decide ((wrap64 ((rd l0 x12_2) - 2)) ≤ a3) = true := decide_eq_true c31
               clear c31
               by_cases c32 : a3 ≤ (wrap64 ((rd l0 x12_2) + 2))
               ·rw [if_pos c32] at H
                have c32b0 : decide (a3 ≤ (wrap64 ((rd l0 x12_2) + 2))) = true := decide_eq_true c32
                clear c32
                simp only [Option.some.injEq, Prod.mk.injEq] at H
                obtain ⟨rfl, rfl, rfl⟩ := H
                have p302 : 0 ≤ (x11_1 : Int) := of_decide_eq_true (by first | (with_reducible assumption) | assumption)
                have q302 : x11_1 < (l0.length : Int) := of_decide_eq_true (by first | (with_reducible assumption) | assumption)
                obtain ⟨ad302, e302, hx302_0⟩ := Kd.at_int HR0.out x11_1 p302 q302
                cases e302
                replace p302 := eq_true p302
                replace q302 := eq_true q302
                have p303 : 0 ≤ (x12_2 : Int) := of_decide_eq_true (by first | (with_reducible assumption) | assumption)
                have q303 : x12_2 < (l0.length : Int) := of_decide_eq_true (by first | (with_reducible assumption) | assumption)
                obtain ⟨ad303, e303, hx303_0⟩ := Kd.at_int HR0.out x12_2 p303 q303
                obtain rfl : ad302 = ad303 := (by injection e303)
                replace p303 := eq_true p303
                replace q303 := eq_true q303
                go_wp2
                repeat (go_quiet (fail); try go_wp2)
                go_ret3
                exact ⟨by first | rfl | (simp; done) | (simp [*]; done), by repeat (first | exact Drawn0.refl _ | apply Drawn0.step)⟩
               ·rw [if_neg c32] at H
                have c32b0 : decide (a3 ≤ (wrap64 ((rd l0 x12_2) + 2))) = false := decide_eq_false c32
                clear c32
                have H' := Aside0.mk H
                clear H
                have p302 : 0 ≤ (x11_1 : Int) := of_decide_eq_true (by first | (with_reducible assumption) | assumption)
                have q302 : x11_1 < (l0.length : Int) := of_decide_eq_true (by first | (with_reducible assumption) | assumption)
                obtain ⟨ad302, e302, hx302_0⟩ := Kd.at_int HR0.out x11_1 p302 q302
                cases e302
                replace p302 := eq_true p302
                replace q302 := eq_true q302
                have p303 : 0 ≤ (x12_2 : Int) := of_decide_eq_true (by first | (with_reducible assumption) | assumption)
                have q303 : x12_2 < (l0.length : Int) := of_decide_eq_true (by first | (with_reducible assumption) | assumption)
                obtain ⟨ad303, e303, hx303_0⟩ := Kd.at_int HR0.out x12_2 p303 q303
                obtain rfl : ad302 = ad303 := (by injection e303)
                replace p303 := eq_true p303
                replace q303 := eq_true q303
                go_wp2
                repeat (go_quiet (fail); try go_wp2)
                go_roundg k2
                case measure => have := HK1.out; have := HK2.out; omega
                case rel => exact ⟨(wrap64 (x12_2 + 1)), smpA, H', ⟨by have := HK1.out; have := HK2.out; omega⟩, by repeat (first | exact Drawn0.refl _ | apply Drawn0.step)⟩
              ·rw [if_neg c31] at H
               have c31b0 : decide ((wrap64 ((rd l0 x12_2) - 2)) ≤ a3) = false := decide_eq_false c31
               clear c31
               have H' := Aside0.mk H
               clear H
               have p302 : 0 ≤ (x11_1 : Int) := of_decide_eq_true (by first | (with_reducible assumption) | assumption)
               have q302 : x11_1 < (l0.length : Int) := of_decide_eq_true (by first | (with_reducible assumption) | assumption)
               obtain ⟨ad302, e302, hx302_0⟩ := Kd.at_int HR0.out x11_1 p302 q302
               cases e302
               replace p302 := eq_true p302
               replace q302 := eq_true q302
               have p303 : 0 ≤ (x12_2 : Int) := of_decide_eq_true (by first | (with_reducible assumption) | assumption)
               have q303 : x12_2 < (l0.length : Int) := of_decide_eq_true (by first | (with_reducible assumption) | assumption)
               obtain ⟨ad303, e303, hx303_0⟩ := Kd.at_int HR0.out x12_2 p303 q303
               obtain rfl : ad302 = ad303 := (by injection e303)
               replace p303 := eq_true p303
               replace q303 := eq_true q303
               go_wp2
               repeat (go_quiet (fail); try go_wp2)
               go_roundg k2
               case measure => have := HK1.out; have := HK2.out; omega
               case rel => exact ⟨(wrap64 (x12_2 + 1)), smpA, H', ⟨by have := HK1.out; have := HK2.out; omega⟩, by repeat (first | exact Drawn0.refl _ | apply Drawn0.step)⟩
             ·rw [if_neg c30] at H
              have c30b0 : decide (a2 ≤ (wrap64 ((rd l0 x11_1) + 2))) = false := decide_eq_false c30
              clear c30
              have H' := Aside0.mk H
              clear H
              have p302 : 0 ≤ (x11_1 : Int) := of_decide_eq_true (by first | (with_reducible assumption) | assumption)
              have q302 : x11_1 < (l0.length : Int) := of_decide_eq_true (by first | (with_reducible assumption) | assumption)
              obtain ⟨ad302, e302, hx302_0⟩ := Kd.at_int HR0.out x11_1 p302 q302
              cases e302
              replace p302 := eq_true p302
              replace q302 := eq_true q302
              have p303 : 0 ≤ (x12_2 : Int) := of_decide_eq_true (by first | (with_reducible assumption) | assumption)
              have q303 : x12_2 < (l0.length : Int) := of_decide_eq_true (by first | (with_reducible assumption) | assumption)
              obtain ⟨ad303, e303, hx303_0⟩ := Kd.at_int HR0.out x12_2 p303 q303
              obtain rfl : ad302 = ad303 := (by injection e303)
              replace p303 := eq_true p303
              replace q303 := eq_true q303
              go_wp2
              repeat (go_quiet (fail); try go_wp2)
              go_roundg k2
              case measure => have := HK1.out; have := HK2.out; omega
              case rel => exact ⟨(wrap64 (x12_2 + 1)), smpA, H', ⟨by have := HK1.out; have := HK2.out; omega⟩, by repeat (first | exact Drawn0.refl _ | apply Drawn0.step)⟩
            ·rw [if_neg c29] at H
             have c29b0 : decide ((wrap64 ((rd l0 x11_1) - 2)) ≤ a2) = false := decide_eq_false c29
             clear c29
             have H' := Aside0.mk H
             clear H
             have p302 : 0 ≤ (x11_1 : Int) := of_decide_eq_true (by first | (with_reducible assumption) | assumption)
             have q302 : x11_1 < (l0.length : Int) := of_decide_eq_true (by first | (with_reducible assumption) | assumption)
             obtain ⟨ad302, e302, hx302_0⟩ := Kd.at_int HR0.out x11_1 p302 q302
             cases e302
             replace p302 := eq_true p302
             replace q302 := eq_true q302
             have p303 : 0 ≤ (x12_2 : Int) := of_decide_eq_true (by first | (with_reducible assumption) | assumption)
             have q303 : x12_2 < (l0.length : Int) := of_decide_eq_true (by first | (with_reducible assumption) | assumption)
             obtain ⟨ad303, e303, hx303_0⟩ := Kd.at_int HR0.out x12_2 p303 q303
             obtain rfl : ad302 = ad303 := (by injection e303)
             replace p303 := eq_true p303
             replace q303 := eq_true q303
             go_wp2
             repeat (go_quiet (fail); try go_wp2)
             go_roundg k2
             case measure => have := HK1.out; have := HK2.out; omega
             case rel => exact ⟨(wrap64 (x12_2 + 1)), smpA, H', ⟨by have := HK1.out; have := HK2.out; omega⟩, by repeat (first | exact Drawn0.refl _ | apply Drawn0.step)⟩
         ·rw [if_neg c9] at H
          exact absurd H (by simp)
        ·rw [if_neg c8] at H
         exact absurd H (by simp)
       ·rw [if_neg c7] at H
        exact absurd H (by simp)
      ·rw [if_neg c6] at H
       have c6b0 : decide (x12_2 < (l0.length : Int)) = false := decide_eq_false c6
       clear c6
       have H' := Aside0.mk H
       clear H
       go_wp2
       repeat (go_quiet (fail); try go_wp2)
       go_roundg k2
       case measure => have := HK1.out; have := HK2.out; omega
       case rel => exact ⟨(wrap64 (x11_1 + 1)), smpA, H', ⟨by have := HK1.out; have := HK2.out; omega⟩, by repeat (first | exact Drawn0.refl _ | apply Drawn0.step)⟩
   ·rw [if_neg c5] at H
    have c5b0 : decide (x11_1 < (l0.length : Int)) = false := decide_eq_false c5
    clear c5
    simp only [Option.some.injEq, Prod.mk.injEq] at H
    obtain ⟨rfl, rfl, rfl⟩ := H
    go_wp2
    repeat (go_quiet (fail); try go_wp2)
    go_ret3
    exact ⟨by first | rfl | (simp; done) | (simp [*]; done), by repeat (first | exact Drawn0.refl _ | apply Drawn0.step)⟩

end Go.Proofs.Ytbbnagjfjgkgjaa.L
