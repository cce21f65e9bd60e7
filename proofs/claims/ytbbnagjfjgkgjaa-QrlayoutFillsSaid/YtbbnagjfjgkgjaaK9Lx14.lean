-- Written by a program of this session out of the kit's print of the loaded functions (see wip/).
import Derived.Test.YtbbnagjfjgkgjaaK9Lx0
import Derived.Test.YtbbnagjfjgkgjaaK9Lx13
namespace Go.Proofs.Ytbbnagjfjgkgjaa.L
open Go.RowKit Go.Proofs.YtbbnagjfjgkgjaaW.PrintWords Go.Proofs.YtbbnagjfjgkgjaaW.PrintLast Go.Proofs.YtbbnagjfjgkgjaaW.PrintMore
attribute [local go_sem] max2_int min2_int max_two min_two max_three min_three max_four min_four   -- for this text's walks alone
set_option linter.unusedVariables false
set_option linter.unusedSimpArgs false

mutual
def barscanref20_purpose.j0 : Nat → Int → Int → Int → Bool → Bool → Option (Int)
 | 0, _, _, _, _, _ => none
 | k + 1, x1, x2, x3, x11, x21 => if x21 = true then (some 2) else (if x11 = true then (some 4) else (if x2 = 6 then (barscanref20_purpose.j1 k x1 x2 x3 true) else (barscanref20_purpose.j1 k x1 x2 x3 (x3 == 6))))
def barscanref20_purpose.j1 : Nat → Int → Int → Int → Bool → Option (Int)
 | 0, _, _, _, _ => none
 | k + 1, x1, x2, x3, x50 => if x50 = true then (some 3) else (if x2 = 8 then (barscanref20_purpose.j2 k x1 x2 x3 (x3 == (wrap64 (x1 - 8)))) else (barscanref20_purpose.j2 k x1 x2 x3 false))
def barscanref20_purpose.j2 : Nat → Int → Int → Int → Bool → Option (Int)
 | 0, _, _, _, _ => none
 | k + 1, x1, x2, x3, x57 => if x57 = true then (some 7) else (if x3 = 8 then (if x2 ≤ 8 then (barscanref20_purpose.j3 k x1 x2 x3 true) else (if x2 ≥ (wrap64 (x1 - 8)) then (barscanref20_purpose.j3 k x1 x2 x3 true) else (if x2 = 8 then (if x3 ≤ 8 then (barscanref20_purpose.j3 k x1 x2 x3 true) else (barscanref20_purpose.j3 k x1 x2 x3 (decide (x3 ≥ (wrap64 (x1 - 7)))))) else (barscanref20_purpose.j3 k x1 x2 x3 false)))) else (if x2 = 8 then (if x3 ≤ 8 then (barscanref20_purpose.j3 k x1 x2 x3 true) else (barscanref20_purpose.j3 k x1 x2 x3 (decide (x3 ≥ (wrap64 (x1 - 7)))))) else (barscanref20_purpose.j3 k x1 x2 x3 false)))
def barscanref20_purpose.j3 : Nat → Int → Int → Int → Bool → Option (Int)
 | 0, _, _, _, _ => none
 | k + 1, x1, x2, x3, x66 => if x66 = true then (some 5) else (if x1 ≥ 45 then (if x2 ≥ (wrap64 (x1 - 11)) then (if x2 ≤ (wrap64 (x1 - 9)) then (if x3 ≤ 5 then (some 6) else (if x3 ≥ (wrap64 (x1 - 11)) then (if x3 ≤ (wrap64 (x1 - 9)) then (if x2 ≤ 5 then (some 6) else (some 1)) else (some 1)) else (some 1))) else (if x3 ≥ (wrap64 (x1 - 11)) then (if x3 ≤ (wrap64 (x1 - 9)) then (if x2 ≤ 5 then (some 6) else (some 1)) else (some 1)) else (some 1))) else (if x3 ≥ (wrap64 (x1 - 11)) then (if x3 ≤ (wrap64 (x1 - 9)) then (if x2 ≤ 5 then (some 6) else (some 1)) else (some 1)) else (some 1))) else (some 1))
end
def barscanref20_purpose.f (k : Nat) (l0 : List Int) (a1 : Int) (a2 : Int) (a3 : Int) : Option (Int) := (barscanref20_aligned.f k l0 a1 a2 a3).bind fun bt319 => (if a2 < 8 then (if a3 < 8 then (barscanref20_purpose.j0 k a1 a2 a3 bt319.2.2 true) else (if a2 ≥ (wrap64 (a1 - 8)) then (barscanref20_purpose.j0 k a1 a2 a3 bt319.2.2 (decide (a3 ≥ (wrap64 (a1 - 8))))) else (barscanref20_purpose.j0 k a1 a2 a3 bt319.2.2 (decide (a3 ≥ (wrap64 (a1 - 8))))))) else (if a2 ≥ (wrap64 (a1 - 8)) then (if a3 < 8 then (barscanref20_purpose.j0 k a1 a2 a3 bt319.2.2 true) else (barscanref20_purpose.j0 k a1 a2 a3 bt319.2.2 false)) else (barscanref20_purpose.j0 k a1 a2 a3 bt319.2.2 false)))
set_option maxHeartbeats 8000000 in
set_option maxRecDepth 100000 in
theorem barscanref20_purpose.calls (k : Nat) (A0 : Option Addr) (c0 : Nat) (l0 : List Int) (a1 : Int) (a2 : Int) (a3 : Int) (r : Int) (w : World) (hr0 : Kd.C (Kd.int .i64) w A0 l0.length l0) (hc0 : l0.length ≤ c0) (h : barscanref20_purpose.f k l0 a1 a2 a3 = some r) :
  Calls Try.prog 59 #[.slice A0 l0.length c0, .int .i64 a1, .int .i64 a2, .int .i64 a3] w fun e w' => e = .returned (.int .i64 r) ∧ Drawn0 w w' := by
 have HR0 := Aside0.mk hr0
 have HC0 := Aside0.mk hc0
 clear hr0 hc0
 have H : ((barscanref20_aligned.f k l0 a1 a2 a3).bind fun bt319 => (if a2 < 8 then (if a3 < 8 then (barscanref20_purpose.j0 k a1 a2 a3 bt319.2.2 true) else (if a2 ≥ (wrap64 (a1 - 8)) then (barscanref20_purpose.j0 k a1 a2 a3 bt319.2.2 (decide (a3 ≥ (wrap64 (a1 - 8))))) else (barscanref20_purpose.j0 k a1 a2 a3 bt319.2.2 (decide (a3 ≥ (wrap64 (a1 - 8))))))) else (if a2 ≥ (wrap64 (a1 - 8)) then (if a3 < 8 then (barscanref20_purpose.j0 k a1 a2 a3 bt319.2.2 true) else (barscanref20_purpose.j0 k a1 a2 a3 bt319.2.2 false)) else (barscanref20_purpose.j0 k a1 a2 a3 bt319.2.2 false)))) = some r := h
 clear h
 replace H := Option.bind_eq_some_iff.mp H
 obtain ⟨⟨t319, t320, t321⟩, A50, H⟩ := H
 replace H : (if a2 < 8 then (if a3 < 8 then (barscanref20_purpose.j0 k a1 a2 a3 t321 true) else (if a2 ≥ (wrap64 (a1 - 8)) then (barscanref20_purpose.j0 k a1 a2 a3 t321 (decide (a3 ≥ (wrap64 (a1 - 8))))) else (barscanref20_purpose.j0 k a1 a2 a3 t321 (decide (a3 ≥ (wrap64 (a1 - 8))))))) else (if a2 ≥ (wrap64 (a1 - 8)) then (if a3 < 8 then (barscanref20_purpose.j0 k a1 a2 a3 t321 true) else (barscanref20_purpose.j0 k a1 a2 a3 t321 false)) else (barscanref20_purpose.j0 k a1 a2 a3 t321 false))) = some r := H
 have A5 := Aside0.mk A50
 clear A50
 have HC6 := Aside0.mk H
 clear H
 go_enter Try.func59, Try.ntmps59
 go_upto_region 2 with (first | ((with_reducible refine gate_callee (f := 72) rfl ?_); refine goesL_ (some 17) rfl rfl Try.func72 (by kernel_rfl) rfl #[.slice A0 l0.length c0, .int .i64 a1, .int .i64 a2, .int .i64 a3] rfl argA ?_; (with_reducible refine (barscanref20_aligned.calls k _ _ l0 a1 a2 a3 t319 t320 t321 _ ?side1 ?side2 A5.out).mono ?_); (case side1 => exact lowA HR0.out); (case side2 => exact HC0.out); rintro e w' ⟨rfl, ⟨nd, rfl⟩⟩; refine ⟨_, rfl, ?_⟩))
 (try simp only [Act.put, List.setIfInBounds_toArray, List.set_cons_zero, List.set_cons_succ])
 go_cut [21] (fun v21 wc => ∃ (kq : Nat) (x21_5 : Bool), v21 = .bool x21_5 ∧ Aside0 (barscanref20_purpose.j0 kq a1 a2 a3 t321 x21_5 = some r) ∧ Aside0 (kq ≤ k) ∧ Drawn0 w wc)
 case first =>
  have H := HC6.out
  clear HC6
  by_cases c7 : a2 < 8
  ·rw [if_pos c7] at H
   have c7b0 : decide (a2 < 8) = true := decide_eq_true c7
   clear c7
   (first | rw [c7b0] | (simp only [i64_w, i32_w]; rw [c7b0]) | skip)
   by_cases c8 : a3 < 8
   ·rw [if_pos c8] at H
    have c8b0 : decide (a3 < 8) = true := decide_eq_true c8
    clear c8
    have H' := Aside0.mk H
    clear H
    go_wp2
    go_meet
    case rel => exact ⟨_, (true), smpA, H', ⟨by first | omega | exact Nat.le_refl _⟩, by repeat (first | exact Drawn0.refl _ | apply Drawn0.step)⟩
   ·rw [if_neg c8] at H
    have c8b0 : decide (a3 < 8) = false := decide_eq_false c8
    clear c8
    by_cases c9 : a2 ≥ (wrap64 (a1 - 8))
    ·rw [if_pos c9] at H
     have c9b0 : decide ((wrap64 (a1 - 8)) ≤ a2) = true := decide_eq_true c9
     clear c9
     have H' := Aside0.mk H
     clear H
     go_wp2
     go_meet
     case rel => exact ⟨_, (decide (a3 ≥ (wrap64 (a1 - 8)))), smpA, H', ⟨by first | omega | exact Nat.le_refl _⟩, by repeat (first | exact Drawn0.refl _ | apply Drawn0.step)⟩
    ·rw [if_neg c9] at H
     have c9b0 : decide ((wrap64 (a1 - 8)) ≤ a2) = false := decide_eq_false c9
     clear c9
     have H' := Aside0.mk H
     clear H
     go_wp2
     go_meet
     case rel => exact ⟨_, (decide (a3 ≥ (wrap64 (a1 - 8)))), smpA, H', ⟨by first | omega | exact Nat.le_refl _⟩, by repeat (first | exact Drawn0.refl _ | apply Drawn0.step)⟩
  ·rw [if_neg c7] at H
   have c7b0 : decide (a2 < 8) = false := decide_eq_false c7
   clear c7
   (first | rw [c7b0] | (simp only [i64_w, i32_w]; rw [c7b0]) | skip)
   by_cases c10 : a2 ≥ (wrap64 (a1 - 8))
   ·rw [if_pos c10] at H
    have c10b0 : decide ((wrap64 (a1 - 8)) ≤ a2) = true := decide_eq_true c10
    clear c10
    by_cases c11 : a3 < 8
    ·rw [if_pos c11] at H
     have c11b0 : decide (a3 < 8) = true := decide_eq_true c11
     clear c11
     have H' := Aside0.mk H
     clear H
     go_wp2
     go_meet
     case rel => exact ⟨_, (true), smpA, H', ⟨by first | omega | exact Nat.le_refl _⟩, by repeat (first | exact Drawn0.refl _ | apply Drawn0.step)⟩
    ·rw [if_neg c11] at H
     have c11b0 : decide (a3 < 8) = false := decide_eq_false c11
     clear c11
     have H' := Aside0.mk H
     clear H
     go_wp2
     go_meet
     case rel => exact ⟨_, (false), smpA, H', ⟨by first | omega | exact Nat.le_refl _⟩, by repeat (first | exact Drawn0.refl _ | apply Drawn0.step)⟩
   ·rw [if_neg c10] at H
    have c10b0 : decide ((wrap64 (a1 - 8)) ≤ a2) = false := decide_eq_false c10
    clear c10
    have H' := Aside0.mk H
    clear H
    go_wp2
    go_meet
    case rel => exact ⟨_, (false), smpA, H', ⟨by first | omega | exact Nat.le_refl _⟩, by repeat (first | exact Drawn0.refl _ | apply Drawn0.step)⟩
 case rest =>
  clear HC6
  try clear c1
  try clear p2
  try clear c5
  try clear p6
  try clear c7
  try clear c7b0
  try clear c8
  try clear c8b0
  try clear c9
  try clear c9b0
  try clear c10
  try clear c10b0
  try clear c11
  try clear c11b0
  obtain ⟨kq, x21_5, rfl, HA, HJ5, ⟨mc5, rfl⟩⟩ := hcut
  cases kq with
  | zero => exact absurd HA.out (by simp [barscanref20_purpose.j0])
  | succ kj5 =>
   have H := HA.out
   clear HA
   simp only [barscanref20_purpose.j0] at H
   by_cases c12 : x21_5 = true
   ·subst c12
    have H1 : (some 2) = some r := by rw [if_pos rfl] at H; exact H
    clear H
    have H := H1
    clear H1
    obtain rfl := Option.some.inj H
    go_wp2
    go_ret
    exact ⟨by first | rfl | (simp; done) | (simp [*]; done), by repeat (first | exact Drawn0.refl _ | apply Drawn0.step)⟩
   ·replace c12 := Bool.eq_false_iff.mpr c12
    subst c12
    have H1 : (if t321 = true then (some 4) else (if a2 = 6 then (barscanref20_purpose.j1 kj5 a1 a2 a3 true) else (barscanref20_purpose.j1 kj5 a1 a2 a3 (a3 == 6)))) = some r := by rw [if_neg (show ¬ (false = true) by decide)] at H; exact H
    clear H
    have H := H1
    clear H1
    by_cases c13 : t321 = true
    ·subst c13
     have H1 : (some 4) = some r := by rw [if_pos rfl] at H; exact H
     clear H
     have H := H1
     clear H1
     obtain rfl := Option.some.inj H
     go_wp2
     go_ret
     exact ⟨by first | rfl | (simp; done) | (simp [*]; done), by repeat (first | exact Drawn0.refl _ | apply Drawn0.step)⟩
    ·replace c13 := Bool.eq_false_iff.mpr c13
     subst c13
     have H1 : (if a2 = 6 then (barscanref20_purpose.j1 kj5 a1 a2 a3 true) else (barscanref20_purpose.j1 kj5 a1 a2 a3 (a3 == 6))) = some r := by rw [if_neg (show ¬ (false = true) by decide)] at H; exact H
     clear H
     have H := H1
     clear H1
     have HC14 := Aside0.mk H
     clear H
     go_upto_region 6 with (fail)
     go_cut [50] (fun v50 wc => ∃ (kq : Nat) (x50_13 : Bool), v50 = .bool x50_13 ∧ Aside0 (barscanref20_purpose.j1 kq a1 a2 a3 x50_13 = some r) ∧ Aside0 (kq ≤ kj5) ∧ Drawn0 w wc)
     case first =>
      have H := HC14.out
      clear HC14
      by_cases c15 : a2 = 6
      ·rw [if_pos c15] at H
       have c15b0 : (a2 == 6) = true := beq_iff_eq.mpr c15
       have c15b1 : (a2 != 6) = false := bne_eq_false_iff_eq.mpr c15
       clear c15
       (first | rw [c15b0] | (simp only [i64_w, i32_w]; rw [c15b0]) | skip)
       have H' := Aside0.mk H
       clear H
       go_wp2
       go_meet
       case rel => exact ⟨_, (true), smpA, H', ⟨by have := HJ5.out; first | omega | exact Nat.le_refl _⟩, by repeat (first | exact Drawn0.refl _ | apply Drawn0.step)⟩
      ·rw [if_neg c15] at H
       have c15b0 : (a2 == 6) = false := beq_eq_false_iff_ne.mpr c15
       have c15b1 : (a2 != 6) = true := bne_iff_ne.mpr c15
       (first | rw [c15b0] | (simp only [i64_w, i32_w]; rw [c15b0]) | skip)
       have H' := Aside0.mk H
       clear H
       go_wp2
       go_meet
       case rel => exact ⟨_, ((a3 == 6)), smpA, H', ⟨by have := HJ5.out; first | omega | exact Nat.le_refl _⟩, by repeat (first | exact Drawn0.refl _ | apply Drawn0.step)⟩
     case rest =>
      clear HC14
      try clear c1
      try clear p2
      try clear c5
      try clear p6
      try clear c7
      try clear c7b0
      try clear c8
      try clear c8b0
      try clear c9
      try clear c9b0
      try clear c10
      try clear c10b0
      try clear c11
      try clear c11b0
      try clear c12
      try clear c13
      try clear c15
      try clear c15b0
      try clear c15b1
      try clear p2
      try clear p6
      obtain ⟨kq, x50_13, rfl, HA, HJ13, ⟨mc13, rfl⟩⟩ := hcut
      cases kq with
      | zero => exact absurd HA.out (by simp [barscanref20_purpose.j1])
      | succ kj13 =>
       have H := HA.out
       clear HA
       simp only [barscanref20_purpose.j1] at H
       by_cases c16 : x50_13 = true
       ·subst c16
        have H1 : (some 3) = some r := by rw [if_pos rfl] at H; exact H
        clear H
        have H := H1
        clear H1
        obtain rfl := Option.some.inj H
        go_wp2
        go_ret
        exact ⟨by first | rfl | (simp; done) | (simp [*]; done), by repeat (first | exact Drawn0.refl _ | apply Drawn0.step)⟩
       ·replace c16 := Bool.eq_false_iff.mpr c16
        subst c16
        have H1 : (if a2 = 8 then (barscanref20_purpose.j2 kj13 a1 a2 a3 (a3 == (wrap64 (a1 - 8)))) else (barscanref20_purpose.j2 kj13 a1 a2 a3 false)) = some r := by rw [if_neg (show ¬ (false = true) by decide)] at H; exact H
        clear H
        have H := H1
        clear H1
        have HC17 := Aside0.mk H
        clear H
        go_upto_region 8 with (fail)
        go_cut [57] (fun v57 wc => ∃ (kq : Nat) (x57_16 : Bool), v57 = .bool x57_16 ∧ Aside0 (barscanref20_purpose.j2 kq a1 a2 a3 x57_16 = some r) ∧ Aside0 (kq ≤ kj13) ∧ Drawn0 w wc)
        case first =>
         have H := HC17.out
         clear HC17
         by_cases c18 : a2 = 8
         ·rw [if_pos c18] at H
          have c18b0 : (a2 == 8) = true := beq_iff_eq.mpr c18
          have c18b1 : (a2 != 8) = false := bne_eq_false_iff_eq.mpr c18
          clear c18
          (first | rw [c18b0] | (simp only [i64_w, i32_w]; rw [c18b0]) | skip)
          have H' := Aside0.mk H
          clear H
          go_wp2
          go_meet
          case rel => exact ⟨_, ((a3 == (wrap64 (a1 - 8)))), smpA, H', ⟨by have := HJ5.out; have := HJ13.out; first | omega | exact Nat.le_refl _⟩, by repeat (first | exact Drawn0.refl _ | apply Drawn0.step)⟩
         ·rw [if_neg c18] at H
          have c18b0 : (a2 == 8) = false := beq_eq_false_iff_ne.mpr c18
          have c18b1 : (a2 != 8) = true := bne_iff_ne.mpr c18
          (first | rw [c18b0] | (simp only [i64_w, i32_w]; rw [c18b0]) | skip)
          have H' := Aside0.mk H
          clear H
          go_wp2
          go_meet
          case rel => exact ⟨_, (false), smpA, H', ⟨by have := HJ5.out; have := HJ13.out; first | omega | exact Nat.le_refl _⟩, by repeat (first | exact Drawn0.refl _ | apply Drawn0.step)⟩
        case rest =>
         clear HC17
         try clear c1
         try clear p2
         try clear c5
         try clear p6
         try clear c7
         try clear c7b0
         try clear c8
         try clear c8b0
         try clear c9
         try clear c9b0
         try clear c10
         try clear c10b0
         try clear c11
         try clear c11b0
         try clear c12
         try clear c13
         try clear c15
         try clear c15b0
         try clear c15b1
         try clear c16
         try clear c18
         try clear c18b0
         try clear c18b1
         try clear p2
         try clear p6
         obtain ⟨kq, x57_16, rfl, HA, HJ16, ⟨mc16, rfl⟩⟩ := hcut
         cases kq with
         | zero => exact absurd HA.out (by simp [barscanref20_purpose.j2])
         | succ kj16 =>
          have H := HA.out
          clear HA
          simp only [barscanref20_purpose.j2] at H
          by_cases c19 : x57_16 = true
          ·subst c19
           have H1 : (some 7) = some r := by rw [if_pos rfl] at H; exact H
           clear H
           have H := H1
           clear H1
           obtain rfl := Option.some.inj H
           go_wp2
           go_ret
           exact ⟨by first | rfl | (simp; done) | (simp [*]; done), by repeat (first | exact Drawn0.refl _ | apply Drawn0.step)⟩
          ·replace c19 := Bool.eq_false_iff.mpr c19
           subst c19
           have H1 : (if a3 = 8 then (if a2 ≤ 8 then (barscanref20_purpose.j3 kj16 a1 a2 a3 true) else (if a2 ≥ (wrap64 (a1 - 8)) then (barscanref20_purpose.j3 kj16 a1 a2 a3 true) else (if a2 = 8 then (if a3 ≤ 8 then (barscanref20_purpose.j3 kj16 a1 a2 a3 true) else (barscanref20_purpose.j3 kj16 a1 a2 a3 (decide (a3 ≥ (wrap64 (a1 - 7)))))) else (barscanref20_purpose.j3 kj16 a1 a2 a3 false)))) else (if a2 = 8 then (if a3 ≤ 8 then (barscanref20_purpose.j3 kj16 a1 a2 a3 true) else (barscanref20_purpose.j3 kj16 a1 a2 a3 (decide (a3 ≥ (wrap64 (a1 - 7)))))) else (barscanref20_purpose.j3 kj16 a1 a2 a3 false))) = some r := by rw [if_neg (show ¬ (false = true) by decide)] at H; exact H
           clear H
           have H := H1
           clear H1
           have HC20 := Aside0.mk H
           clear H
           go_upto_region 10 with (fail)
           go_cut [66] (fun v66 wc => ∃ (kq : Nat) (x66_19 : Bool), v66 = .bool x66_19 ∧ Aside0 (barscanref20_purpose.j3 kq a1 a2 a3 x66_19 = some r) ∧ Aside0 (kq ≤ kj16) ∧ Drawn0 w wc)
           case first =>
            have H := HC20.out
            clear HC20
            by_cases c21 : a3 = 8
            ·rw [if_pos c21] at H
             have c21b0 : (a3 == 8) = true := beq_iff_eq.mpr c21
             have c21b1 : (a3 != 8) = false := bne_eq_false_iff_eq.mpr c21
             clear c21
             (first | rw [c21b0] | (simp only [i64_w, i32_w]; rw [c21b0]) | skip)
             by_cases c22 : a2 ≤ 8
             ·rw [if_pos c22] at H
              have c22b0 : decide (a2 ≤ 8) = true := decide_eq_true c22
              clear c22
              have H' := Aside0.mk H
              clear H
              go_wp2
              go_meet
              case rel => exact ⟨_, (true), smpA, H', ⟨by have := HJ5.out; have := HJ13.out; have := HJ16.out; first | omega | exact Nat.le_refl _⟩, by repeat (first | exact Drawn0.refl _ | apply Drawn0.step)⟩
             ·rw [if_neg c22] at H
              have c22b0 : decide (a2 ≤ 8) = false := decide_eq_false c22
              clear c22
              by_cases c23 : a2 ≥ (wrap64 (a1 - 8))
              ·rw [if_pos c23] at H
               have c23b0 : decide ((wrap64 (a1 - 8)) ≤ a2) = true := decide_eq_true c23
               clear c23
               have H' := Aside0.mk H
               clear H
               go_wp2
               go_meet
               case rel => exact ⟨_, (true), smpA, H', ⟨by have := HJ5.out; have := HJ13.out; have := HJ16.out; first | omega | exact Nat.le_refl _⟩, by repeat (first | exact Drawn0.refl _ | apply Drawn0.step)⟩
              ·rw [if_neg c23] at H
               have c23b0 : decide ((wrap64 (a1 - 8)) ≤ a2) = false := decide_eq_false c23
               clear c23
               by_cases c24 : a2 = 8
               ·rw [if_pos c24] at H
                have c24b0 : (a2 == 8) = true := beq_iff_eq.mpr c24
                have c24b1 : (a2 != 8) = false := bne_eq_false_iff_eq.mpr c24
                clear c24
                by_cases c25 : a3 ≤ 8
                ·rw [if_pos c25] at H
                 have c25b0 : decide (a3 ≤ 8) = true := decide_eq_true c25
                 clear c25
                 have H' := Aside0.mk H
                 clear H
                 go_wp2
                 go_meet
                 case rel => exact ⟨_, (true), smpA, H', ⟨by have := HJ5.out; have := HJ13.out; have := HJ16.out; first | omega | exact Nat.le_refl _⟩, by repeat (first | exact Drawn0.refl _ | apply Drawn0.step)⟩
                ·rw [if_neg c25] at H
                 have c25b0 : decide (a3 ≤ 8) = false := decide_eq_false c25
                 clear c25
                 have H' := Aside0.mk H
                 clear H
                 go_wp2
                 go_meet
                 case rel => exact ⟨_, (decide (a3 ≥ (wrap64 (a1 - 7)))), smpA, H', ⟨by have := HJ5.out; have := HJ13.out; have := HJ16.out; first | omega | exact Nat.le_refl _⟩, by repeat (first | exact Drawn0.refl _ | apply Drawn0.step)⟩
               ·rw [if_neg c24] at H
                have c24b0 : (a2 == 8) = false := beq_eq_false_iff_ne.mpr c24
                have c24b1 : (a2 != 8) = true := bne_iff_ne.mpr c24
                have H' := Aside0.mk H
                clear H
                go_wp2
                go_meet
                case rel => exact ⟨_, (false), smpA, H', ⟨by have := HJ5.out; have := HJ13.out; have := HJ16.out; first | omega | exact Nat.le_refl _⟩, by repeat (first | exact Drawn0.refl _ | apply Drawn0.step)⟩
            ·rw [if_neg c21] at H
             have c21b0 : (a3 == 8) = false := beq_eq_false_iff_ne.mpr c21
             have c21b1 : (a3 != 8) = true := bne_iff_ne.mpr c21
             (first | rw [c21b0] | (simp only [i64_w, i32_w]; rw [c21b0]) | skip)
             by_cases c26 : a2 = 8
             ·rw [if_pos c26] at H
              have c26b0 : (a2 == 8) = true := beq_iff_eq.mpr c26
              have c26b1 : (a2 != 8) = false := bne_eq_false_iff_eq.mpr c26
              clear c26
              by_cases c27 : a3 ≤ 8
              ·rw [if_pos c27] at H
               have c27b0 : decide (a3 ≤ 8) = true := decide_eq_true c27
               clear c27
               have H' := Aside0.mk H
               clear H
               go_wp2
               go_meet
               case rel => exact ⟨_, (true), smpA, H', ⟨by have := HJ5.out; have := HJ13.out; have := HJ16.out; first | omega | exact Nat.le_refl _⟩, by repeat (first | exact Drawn0.refl _ | apply Drawn0.step)⟩
              ·rw [if_neg c27] at H
               have c27b0 : decide (a3 ≤ 8) = false := decide_eq_false c27
               clear c27
               have H' := Aside0.mk H
               clear H
               go_wp2
               go_meet
               case rel => exact ⟨_, (decide (a3 ≥ (wrap64 (a1 - 7)))), smpA, H', ⟨by have := HJ5.out; have := HJ13.out; have := HJ16.out; first | omega | exact Nat.le_refl _⟩, by repeat (first | exact Drawn0.refl _ | apply Drawn0.step)⟩
             ·rw [if_neg c26] at H
              have c26b0 : (a2 == 8) = false := beq_eq_false_iff_ne.mpr c26
              have c26b1 : (a2 != 8) = true := bne_iff_ne.mpr c26
              have H' := Aside0.mk H
              clear H
              go_wp2
              go_meet
              case rel => exact ⟨_, (false), smpA, H', ⟨by have := HJ5.out; have := HJ13.out; have := HJ16.out; first | omega | exact Nat.le_refl _⟩, by repeat (first | exact Drawn0.refl _ | apply Drawn0.step)⟩
           case rest =>
            clear HC20
            try clear c1
            try clear c2
            try clear p2
            try clear c5
            try clear p6
            try clear c7
            try clear c7b0
            try clear c8
            try clear c8b0
            try clear c9
            try clear c9b0
            try clear c10
            try clear c10b0
            try clear c11
            try clear c11b0
            try clear c12
            try clear c13
            try clear c15
            try clear c15b0
            try clear c15b1
            try clear c16
            try clear c18
            try clear c18b0
            try clear c18b1
            try clear c19
            try clear c21
            try clear c21b0
            try clear c21b1
            try clear c22
            try clear c22b0
            try clear c23
            try clear c23b0
            try clear c24
            try clear c24b0
            try clear c24b1
            try clear c25
            try clear c25b0
            try clear c26
            try clear c26b0
            try clear c26b1
            try clear c27
            try clear c27b0
            try clear p2
            try clear p6
            obtain ⟨kq, x66_19, rfl, HA, HJ19, ⟨mc19, rfl⟩⟩ := hcut
            cases kq with
            | zero => exact absurd HA.out (by simp [barscanref20_purpose.j3])
            | succ kj19 =>
             have H := HA.out
             clear HA
             simp only [barscanref20_purpose.j3] at H
             by_cases c28 : x66_19 = true
             ·subst c28
              have H1 : (some 5) = some r := by rw [if_pos rfl] at H; exact H
              clear H
              have H := H1
              clear H1
              obtain rfl := Option.some.inj H
              go_wp2
              go_ret
              exact ⟨by first | rfl | (simp; done) | (simp [*]; done), by repeat (first | exact Drawn0.refl _ | apply Drawn0.step)⟩
             ·replace c28 := Bool.eq_false_iff.mpr c28
              subst c28
              have H1 : (if a1 ≥ 45 then (if a2 ≥ (wrap64 (a1 - 11)) then (if a2 ≤ (wrap64 (a1 - 9)) then (if a3 ≤ 5 then (some 6) else (if a3 ≥ (wrap64 (a1 - 11)) then (if a3 ≤ (wrap64 (a1 - 9)) then (if a2 ≤ 5 then (some 6) else (some 1)) else (some 1)) else (some 1))) else (if a3 ≥ (wrap64 (a1 - 11)) then (if a3 ≤ (wrap64 (a1 - 9)) then (if a2 ≤ 5 then (some 6) else (some 1)) else (some 1)) else (some 1))) else (if a3 ≥ (wrap64 (a1 - 11)) then (if a3 ≤ (wrap64 (a1 - 9)) then (if a2 ≤ 5 then (some 6) else (some 1)) else (some 1)) else (some 1))) else (some 1)) = some r := by rw [if_neg (show ¬ (false = true) by decide)] at H; exact H
              clear H
              have H := H1
              clear H1
              by_cases c29 : a1 ≥ 45
              ·rw [if_pos c29] at H
               have c29b0 : decide (45 ≤ a1) = true := decide_eq_true c29
               clear c29
               by_cases c30 : a2 ≥ (wrap64 (a1 - 11))
               ·rw [if_pos c30] at H
                have c30b0 : decide ((wrap64 (a1 - 11)) ≤ a2) = true := decide_eq_true c30
                clear c30
                by_cases c31 : a2 ≤ (wrap64 (a1 - 9))
                ·rw [if_pos c31] at H
                 have c31b0 : decide (a2 ≤ (wrap64 (a1 - 9))) = true := decide_eq_true c31
                 clear c31
                 by_cases c32 : a3 ≤ 5
                 ·rw [if_pos c32] at H
                  have c32b0 : decide (a3 ≤ 5) = true := decide_eq_true c32
                  clear c32
                  obtain rfl := Option.some.inj H
                  go_wp2
                  go_ret
                  exact ⟨by first | rfl | (simp; done) | (simp [*]; done), by repeat (first | exact Drawn0.refl _ | apply Drawn0.step)⟩
                 ·rw [if_neg c32] at H
                  have c32b0 : decide (a3 ≤ 5) = false := decide_eq_false c32
                  clear c32
                  by_cases c33 : a3 ≥ (wrap64 (a1 - 11))
                  ·rw [if_pos c33] at H
                   have c33b0 : decide ((wrap64 (a1 - 11)) ≤ a3) = true := decide_eq_true c33
                   clear c33
                   by_cases c34 : a3 ≤ (wrap64 (a1 - 9))
                   ·rw [if_pos c34] at H
                    have c34b0 : decide (a3 ≤ (wrap64 (a1 - 9))) = true := decide_eq_true c34
                    clear c34
                    by_cases c35 : a2 ≤ 5
                    ·rw [if_pos c35] at H
                     have c35b0 : decide (a2 ≤ 5) = true := decide_eq_true c35
                     clear c35
                     obtain rfl := Option.some.inj H
                     go_wp2
                     go_ret
                     exact ⟨by first | rfl | (simp; done) | (simp [*]; done), by repeat (first | exact Drawn0.refl _ | apply Drawn0.step)⟩
                    ·rw [if_neg c35] at H
                     have c35b0 : decide (a2 ≤ 5) = false := decide_eq_false c35
                     clear c35
                     obtain rfl := Option.some.inj H
                     go_wp2
                     go_ret
                     exact ⟨by first | rfl | (simp; done) | (simp [*]; done), by repeat (first | exact Drawn0.refl _ | apply Drawn0.step)⟩
                   ·rw [if_neg c34] at H
                    have c34b0 : decide (a3 ≤ (wrap64 (a1 - 9))) = false := decide_eq_false c34
                    clear c34
                    obtain rfl := Option.some.inj H
                    go_wp2
                    go_ret
                    exact ⟨by first | rfl | (simp; done) | (simp [*]; done), by repeat (first | exact Drawn0.refl _ | apply Drawn0.step)⟩
                  ·rw [if_neg c33] at H
                   have c33b0 : decide ((wrap64 (a1 - 11)) ≤ a3) = false := decide_eq_false c33
                   clear c33
                   obtain rfl := Option.some.inj H
                   go_wp2
                   go_ret
                   exact ⟨by first | rfl | (simp; done) | (simp [*]; done), by repeat (first | exact Drawn0.refl _ | apply Drawn0.step)⟩
                ·rw [if_neg c31] at H
                 have c31b0 : decide (a2 ≤ (wrap64 (a1 - 9))) = false := decide_eq_false c31
                 clear c31
                 by_cases c36 : a3 ≥ (wrap64 (a1 - 11))
                 ·rw [if_pos c36] at H
                  have c36b0 : decide ((wrap64 (a1 - 11)) ≤ a3) = true := decide_eq_true c36
                  clear c36
                  by_cases c37 : a3 ≤ (wrap64 (a1 - 9))
                  ·rw [if_pos c37] at H
                   have c37b0 : decide (a3 ≤ (wrap64 (a1 - 9))) = true := decide_eq_true c37
                   clear c37
                   by_cases c38 : a2 ≤ 5
                   ·rw [if_pos c38] at H
                    have c38b0 : decide (a2 ≤ 5) = true := decide_eq_true c38
                    clear c38
                    obtain rfl := Option.some.inj H
                    go_wp2
                    go_ret
                    exact ⟨by first | rfl | (simp; done) | (simp [*]; done), by repeat (first | exact Drawn0.refl _ | apply Drawn0.step)⟩
                   ·rw [if_neg c38] at H
                    have c38b0 : decide (a2 ≤ 5) = false := decide_eq_false c38
                    clear c38
                    obtain rfl := Option.some.inj H
                    go_wp2
                    go_ret
                    exact ⟨by first | rfl | (simp; done) | (simp [*]; done), by repeat (first | exact Drawn0.refl _ | apply Drawn0.step)⟩
                  ·rw [if_neg c37] at H
                   have c37b0 : decide (a3 ≤ (wrap64 (a1 - 9))) = false := decide_eq_false c37
                   clear c37
                   obtain rfl := Option.some.inj H
                   go_wp2
                   go_ret
                   exact ⟨by first | rfl | (simp; done) | (simp [*]; done), by repeat (first | exact Drawn0.refl _ | apply Drawn0.step)⟩
                 ·rw [if_neg c36] at H
                  have c36b0 : decide ((wrap64 (a1 - 11)) ≤ a3) = false := decide_eq_false c36
                  clear c36
                  obtain rfl := Option.some.inj H
                  go_wp2
                  go_ret
                  exact ⟨by first | rfl | (simp; done) | (simp [*]; done), by repeat (first | exact Drawn0.refl _ | apply Drawn0.step)⟩
               ·rw [if_neg c30] at H
                have c30b0 : decide ((wrap64 (a1 - 11)) ≤ a2) = false := decide_eq_false c30
                clear c30
                by_cases c39 : a3 ≥ (wrap64 (a1 - 11))
                ·rw [if_pos c39] at H
                 have c39b0 : decide ((wrap64 (a1 - 11)) ≤ a3) = true := decide_eq_true c39
                 clear c39
                 by_cases c40 : a3 ≤ (wrap64 (a1 - 9))
                 ·rw [if_pos c40] at H
                  have c40b0 : decide (a3 ≤ (wrap64 (a1 - 9))) = true := decide_eq_true c40
                  clear c40
                  by_cases c41 : a2 ≤ 5
                  ·rw [if_pos c41] at H
                   have c41b0 : decide (a2 ≤ 5) = true := decide_eq_true c41
                   clear c41
                   obtain rfl := Option.some.inj H
                   go_wp2
                   go_ret
                   exact ⟨by first | rfl | (simp; done) | (simp [*]; done), by repeat (first | exact Drawn0.refl _ | apply Drawn0.step)⟩
                  ·rw [if_neg c41] at H
                   have c41b0 : decide (a2 ≤ 5) = false := decide_eq_false c41
                   clear c41
                   obtain rfl := Option.some.inj H
                   go_wp2
                   go_ret
                   exact ⟨by first | rfl | (simp; done) | (simp [*]; done), by repeat (first | exact Drawn0.refl _ | apply Drawn0.step)⟩
                 ·rw [if_neg c40] at H
                  have c40b0 : decide (a3 ≤ (wrap64 (a1 - 9))) = false := decide_eq_false c40
                  clear c40
                  obtain rfl := Option.some.inj H
                  go_wp2
                  go_ret
                  exact ⟨by first | rfl | (simp; done) | (simp [*]; done), by repeat (first | exact Drawn0.refl _ | apply Drawn0.step)⟩
                ·rw [if_neg c39] at H
                 have c39b0 : decide ((wrap64 (a1 - 11)) ≤ a3) = false := decide_eq_false c39
                 clear c39
                 obtain rfl := Option.some.inj H
                 go_wp2
                 go_ret
                 exact ⟨by first | rfl | (simp; done) | (simp [*]; done), by repeat (first | exact Drawn0.refl _ | apply Drawn0.step)⟩
              ·rw [if_neg c29] at H
               have c29b0 : decide (45 ≤ a1) = false := decide_eq_false c29
               clear c29
               obtain rfl := Option.some.inj H
               go_wp2
               go_ret
               exact ⟨by first | rfl | (simp; done) | (simp [*]; done), by repeat (first | exact Drawn0.refl _ | apply Drawn0.step)⟩

end Go.Proofs.Ytbbnagjfjgkgjaa.L
