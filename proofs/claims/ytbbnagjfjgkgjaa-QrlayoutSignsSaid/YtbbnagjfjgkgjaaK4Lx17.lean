-- Written by a program of this session out of the kit's print of the loaded functions (see wip/).
import Derived.Test.YtbbnagjfjgkgjaaK4Lx0
import Derived.Test.YtbbnagjfjgkgjaaK4Lx16
namespace Go.Proofs.Ytbbnagjfjgkgjaa.L
open Go.RowKit Go.Proofs.YtbbnagjfjgkgjaaW.PrintWords Go.Proofs.YtbbnagjfjgkgjaaW.PrintLast Go.Proofs.YtbbnagjfjgkgjaaW.PrintMore
attribute [local go_sem] max2_int min2_int max_two min_two max_three min_three max_four min_four   -- for this text's walks alone
set_option linter.unusedVariables false
set_option linter.unusedSimpArgs false

def barscanref08_codeword.f (k : Nat) (a0 : Int) (a1 : Int) : Option (Int) := (barscanref08_degree.f k a1).bind fun t364 => ((barscanref08_power.f k t364).bind fun t365 => ((barscanref08_remainder.f k (wrap64 (a0 * t365)) a1).bind fun t366 => (some (wrap64 ((wrap64 (a0 * t365)) + t366)))))
set_option maxHeartbeats 8000000 in
set_option maxRecDepth 100000 in
theorem barscanref08_codeword.calls (k : Nat) (a0 : Int) (a1 : Int) (r : Int) (w : World) (h : barscanref08_codeword.f k a0 a1 = some r) :
  Calls Try.prog 78 #[.int .i64 a0, .int .i64 a1] w fun e w' => e = .returned (.int .i64 r) ∧ Drawn0 w w' := by
 have H : ((barscanref08_degree.f k a1).bind fun t364 => ((barscanref08_power.f k t364).bind fun t365 => ((barscanref08_remainder.f k (wrap64 (a0 * t365)) a1).bind fun t366 => (some (wrap64 ((wrap64 (a0 * t365)) + t366)))))) = some r := h
 clear h
 replace H := Option.bind_eq_some_iff.mp H
 obtain ⟨t364, A30, H⟩ := H
 replace H : ((barscanref08_power.f k t364).bind fun t365 => ((barscanref08_remainder.f k (wrap64 (a0 * t365)) a1).bind fun t366 => (some (wrap64 ((wrap64 (a0 * t365)) + t366))))) = some r := H
 have A3 := Aside0.mk A30
 clear A30
 replace H := Option.bind_eq_some_iff.mp H
 obtain ⟨t365, A40, H⟩ := H
 replace H : ((barscanref08_remainder.f k (wrap64 (a0 * t365)) a1).bind fun t366 => (some (wrap64 ((wrap64 (a0 * t365)) + t366)))) = some r := H
 have A4 := Aside0.mk A40
 clear A40
 replace H := Option.bind_eq_some_iff.mp H
 obtain ⟨t366, A50, H⟩ := H
 replace H : (some (wrap64 ((wrap64 (a0 * t365)) + t366))) = some r := H
 have A5 := Aside0.mk A50
 clear A50
 obtain rfl := Option.some.inj H
 go_enter Try.func78, Try.ntmps78
 go_wp2_with (first | ((with_reducible refine gate_callee (f := 92) rfl ?_); refine goesL_ (some 8) rfl rfl Try.func92 (by kernel_rfl) rfl #[.int .i64 a1] rfl (by (try simp only [List.map_toArray, List.map_cons, List.map_nil]); first | done | rfl | (simp only [List.length_drop, List.length_take]; rfl)) ?_; (with_reducible refine (barscanref08_degree.calls k a1 t364 _ A3.out).mono ?_); rintro e w' ⟨rfl, ⟨nd, rfl⟩⟩; refine ⟨_, rfl, ?_⟩) | ((with_reducible refine gate_callee (f := 91) rfl ?_); refine goesL_ (some 9) rfl rfl Try.func91 (by kernel_rfl) rfl #[.int .i64 t364] rfl (by (try simp only [List.map_toArray, List.map_cons, List.map_nil]); first | done | rfl | (simp only [List.length_drop, List.length_take]; rfl)) ?_; (with_reducible refine (barscanref08_power.calls k t364 t365 _ A4.out).mono ?_); rintro e w' ⟨rfl, ⟨nd, rfl⟩⟩; refine ⟨_, rfl, ?_⟩) | ((with_reducible refine gate_callee (f := 93) rfl ?_); refine goesL_ (some 14) rfl rfl Try.func93 (by kernel_rfl) rfl #[.int .i64 (wrap64 (a0 * t365)), .int .i64 a1] rfl (by (try simp only [List.map_toArray, List.map_cons, List.map_nil]); first | done | rfl | (simp only [List.length_drop, List.length_take]; rfl)) ?_; (with_reducible refine (barscanref08_remainder.calls k (wrap64 (a0 * t365)) a1 t366 _ A5.out).mono ?_); rintro e w' ⟨rfl, ⟨nd, rfl⟩⟩; refine ⟨_, rfl, ?_⟩))
 go_ret
 exact ⟨by first | rfl | (simp; done) | (simp [*]; done), by repeat (first | exact Drawn0.refl _ | apply Drawn0.step)⟩

def barscanref08_Format.f (k : Nat) (a0 : Int) (a1 : Int) : Option (Int × Int) := if a0 = 1 then (if a1 < 0 then (some (0, 3)) else (if a1 > 7 then (some (0, 3)) else ((barscanref08_codeword.f k (wrap64 ((8 * 1) + a1)) 1335).bind fun t192 => (some (Go.bits .xor .i64 t192 21522, 0))))) else (if a0 = 2 then (if a1 < 0 then (some (0, 3)) else (if a1 > 7 then (some (0, 3)) else ((barscanref08_codeword.f k (wrap64 ((8 * 0) + a1)) 1335).bind fun t193 => (some (Go.bits .xor .i64 t193 21522, 0))))) else (if a0 = 3 then (if a1 < 0 then (some (0, 3)) else (if a1 > 7 then (some (0, 3)) else ((barscanref08_codeword.f k (wrap64 ((8 * 3) + a1)) 1335).bind fun t194 => (some (Go.bits .xor .i64 t194 21522, 0))))) else (if a0 = 4 then (if a1 < 0 then (some (0, 3)) else (if a1 > 7 then (some (0, 3)) else ((barscanref08_codeword.f k (wrap64 ((8 * 2) + a1)) 1335).bind fun t195 => (some (Go.bits .xor .i64 t195 21522, 0))))) else (some (0, 15)))))
set_option maxHeartbeats 8000000 in
set_option maxRecDepth 100000 in
theorem barscanref08_Format.calls (k : Nat) (a0 : Int) (a1 : Int) (r1 : Int) (r2 : Int) (w : World) (h : barscanref08_Format.f k a0 a1 = some (r1, r2)) :
  Calls Try.prog 51 #[.int .i64 a0, .int .i64 a1] w fun e w' => e = .returned (.tuple #[.int .i64 r1, .int .i64 r2]) ∧ Drawn0 w w' := by
 have H : (if a0 = 1 then (if a1 < 0 then (some (0, 3)) else (if a1 > 7 then (some (0, 3)) else ((barscanref08_codeword.f k (wrap64 ((8 * 1) + a1)) 1335).bind fun t192 => (some (Go.bits .xor .i64 t192 21522, 0))))) else (if a0 = 2 then (if a1 < 0 then (some (0, 3)) else (if a1 > 7 then (some (0, 3)) else ((barscanref08_codeword.f k (wrap64 ((8 * 0) + a1)) 1335).bind fun t193 => (some (Go.bits .xor .i64 t193 21522, 0))))) else (if a0 = 3 then (if a1 < 0 then (some (0, 3)) else (if a1 > 7 then (some (0, 3)) else ((barscanref08_codeword.f k (wrap64 ((8 * 3) + a1)) 1335).bind fun t194 => (some (Go.bits .xor .i64 t194 21522, 0))))) else (if a0 = 4 then (if a1 < 0 then (some (0, 3)) else (if a1 > 7 then (some (0, 3)) else ((barscanref08_codeword.f k (wrap64 ((8 * 2) + a1)) 1335).bind fun t195 => (some (Go.bits .xor .i64 t195 21522, 0))))) else (some (0, 15)))))) = some (r1, r2) := h
 clear h
 by_cases c3 : a0 = 1
 ·rw [if_pos c3] at H
  have c3b0 : (a0 == 1) = true := beq_iff_eq.mpr c3
  have c3b1 : (a0 != 1) = false := bne_eq_false_iff_eq.mpr c3
  clear c3
  by_cases c4 : a1 < 0
  ·rw [if_pos c4] at H
   have c4b0 : decide (a1 < 0) = true := decide_eq_true c4
   clear c4
   simp only [Option.some.injEq, Prod.mk.injEq] at H
   obtain ⟨rfl, rfl⟩ := H
   go_enter Try.func51, Try.ntmps51
   go_wp2
   go_ret2
   exact ⟨by first | rfl | (simp; done) | (simp [*]; done), by repeat (first | exact Drawn0.refl _ | apply Drawn0.step)⟩
  ·rw [if_neg c4] at H
   have c4b0 : decide (a1 < 0) = false := decide_eq_false c4
   clear c4
   by_cases c5 : a1 > 7
   ·rw [if_pos c5] at H
    have c5b0 : decide (7 < a1) = true := decide_eq_true c5
    clear c5
    simp only [Option.some.injEq, Prod.mk.injEq] at H
    obtain ⟨rfl, rfl⟩ := H
    go_enter Try.func51, Try.ntmps51
    go_wp2
    go_ret2
    exact ⟨by first | rfl | (simp; done) | (simp [*]; done), by repeat (first | exact Drawn0.refl _ | apply Drawn0.step)⟩
   ·rw [if_neg c5] at H
    have c5b0 : decide (7 < a1) = false := decide_eq_false c5
    clear c5
    replace H := Option.bind_eq_some_iff.mp H
    obtain ⟨t192, A60, H⟩ := H
    replace H : (some (Go.bits .xor .i64 t192 21522, 0)) = some (r1, r2) := H
    have A6 := Aside0.mk A60
    clear A60
    simp only [Option.some.injEq, Prod.mk.injEq] at H
    obtain ⟨rfl, rfl⟩ := H
    go_enter Try.func51, Try.ntmps51
    go_wp2_with (first | ((with_reducible refine gate_callee (f := 78) rfl ?_); refine goesL_ (some 26) rfl rfl Try.func78 (by kernel_rfl) rfl #[.int .i64 (wrap64 ((8 * 1) + a1)), .int .i64 1335] rfl (by (try simp only [List.map_toArray, List.map_cons, List.map_nil]); first | done | rfl | (simp only [List.length_drop, List.length_take]; rfl)) ?_; (with_reducible refine (barscanref08_codeword.calls k (wrap64 ((8 * 1) + a1)) 1335 t192 _ A6.out).mono ?_); rintro e w' ⟨rfl, ⟨nd, rfl⟩⟩; refine ⟨_, rfl, ?_⟩))
    go_ret2
    exact ⟨by first | rfl | (simp; done) | (simp [*]; done), by repeat (first | exact Drawn0.refl _ | apply Drawn0.step)⟩
 ·rw [if_neg c3] at H
  have c3b0 : (a0 == 1) = false := beq_eq_false_iff_ne.mpr c3
  have c3b1 : (a0 != 1) = true := bne_iff_ne.mpr c3
  by_cases c7 : a0 = 2
  ·rw [if_pos c7] at H
   have c7b0 : (a0 == 2) = true := beq_iff_eq.mpr c7
   have c7b1 : (a0 != 2) = false := bne_eq_false_iff_eq.mpr c7
   clear c7
   by_cases c8 : a1 < 0
   ·rw [if_pos c8] at H
    have c8b0 : decide (a1 < 0) = true := decide_eq_true c8
    clear c8
    simp only [Option.some.injEq, Prod.mk.injEq] at H
    obtain ⟨rfl, rfl⟩ := H
    go_enter Try.func51, Try.ntmps51
    go_wp2
    go_ret2
    exact ⟨by first | rfl | (simp; done) | (simp [*]; done), by repeat (first | exact Drawn0.refl _ | apply Drawn0.step)⟩
   ·rw [if_neg c8] at H
    have c8b0 : decide (a1 < 0) = false := decide_eq_false c8
    clear c8
    by_cases c9 : a1 > 7
    ·rw [if_pos c9] at H
     have c9b0 : decide (7 < a1) = true := decide_eq_true c9
     clear c9
     simp only [Option.some.injEq, Prod.mk.injEq] at H
     obtain ⟨rfl, rfl⟩ := H
     go_enter Try.func51, Try.ntmps51
     go_wp2
     go_ret2
     exact ⟨by first | rfl | (simp; done) | (simp [*]; done), by repeat (first | exact Drawn0.refl _ | apply Drawn0.step)⟩
    ·rw [if_neg c9] at H
     have c9b0 : decide (7 < a1) = false := decide_eq_false c9
     clear c9
     replace H := Option.bind_eq_some_iff.mp H
     obtain ⟨t193, A100, H⟩ := H
     replace H : (some (Go.bits .xor .i64 t193 21522, 0)) = some (r1, r2) := H
     rw [show wrap64 ((8 * 0) + a1) = wrap64 a1 by rw [Int.mul_zero, Int.zero_add]] at A100
     have A10 := Aside0.mk A100
     clear A100
     simp only [Option.some.injEq, Prod.mk.injEq] at H
     obtain ⟨rfl, rfl⟩ := H
     go_enter Try.func51, Try.ntmps51
     go_wp2_with (first | ((with_reducible refine gate_callee (f := 78) rfl ?_); refine goesL_ (some 26) rfl rfl Try.func78 (by kernel_rfl) rfl #[.int .i64 (wrap64 a1), .int .i64 1335] rfl (by (try simp only [List.map_toArray, List.map_cons, List.map_nil]); first | done | rfl | (simp only [List.length_drop, List.length_take]; rfl)) ?_; (with_reducible refine (barscanref08_codeword.calls k (wrap64 a1) 1335 t193 _ A10.out).mono ?_); rintro e w' ⟨rfl, ⟨nd, rfl⟩⟩; refine ⟨_, rfl, ?_⟩))
     go_ret2
     exact ⟨by first | rfl | (simp; done) | (simp [*]; done), by repeat (first | exact Drawn0.refl _ | apply Drawn0.step)⟩
  ·rw [if_neg c7] at H
   have c7b0 : (a0 == 2) = false := beq_eq_false_iff_ne.mpr c7
   have c7b1 : (a0 != 2) = true := bne_iff_ne.mpr c7
   by_cases c11 : a0 = 3
   ·rw [if_pos c11] at H
    have c11b0 : (a0 == 3) = true := beq_iff_eq.mpr c11
    have c11b1 : (a0 != 3) = false := bne_eq_false_iff_eq.mpr c11
    clear c11
    by_cases c12 : a1 < 0
    ·rw [if_pos c12] at H
     have c12b0 : decide (a1 < 0) = true := decide_eq_true c12
     clear c12
     simp only [Option.some.injEq, Prod.mk.injEq] at H
     obtain ⟨rfl, rfl⟩ := H
     go_enter Try.func51, Try.ntmps51
     go_wp2
     go_ret2
     exact ⟨by first | rfl | (simp; done) | (simp [*]; done), by repeat (first | exact Drawn0.refl _ | apply Drawn0.step)⟩
    ·rw [if_neg c12] at H
     have c12b0 : decide (a1 < 0) = false := decide_eq_false c12
     clear c12
     by_cases c13 : a1 > 7
     ·rw [if_pos c13] at H
      have c13b0 : decide (7 < a1) = true := decide_eq_true c13
      clear c13
      simp only [Option.some.injEq, Prod.mk.injEq] at H
      obtain ⟨rfl, rfl⟩ := H
      go_enter Try.func51, Try.ntmps51
      go_wp2
      go_ret2
      exact ⟨by first | rfl | (simp; done) | (simp [*]; done), by repeat (first | exact Drawn0.refl _ | apply Drawn0.step)⟩
     ·rw [if_neg c13] at H
      have c13b0 : decide (7 < a1) = false := decide_eq_false c13
      clear c13
      replace H := Option.bind_eq_some_iff.mp H
      obtain ⟨t194, A140, H⟩ := H
      replace H : (some (Go.bits .xor .i64 t194 21522, 0)) = some (r1, r2) := H
      have A14 := Aside0.mk A140
      clear A140
      simp only [Option.some.injEq, Prod.mk.injEq] at H
      obtain ⟨rfl, rfl⟩ := H
      go_enter Try.func51, Try.ntmps51
      go_wp2_with (first | ((with_reducible refine gate_callee (f := 78) rfl ?_); refine goesL_ (some 26) rfl rfl Try.func78 (by kernel_rfl) rfl #[.int .i64 (wrap64 ((8 * 3) + a1)), .int .i64 1335] rfl (by (try simp only [List.map_toArray, List.map_cons, List.map_nil]); first | done | rfl | (simp only [List.length_drop, List.length_take]; rfl)) ?_; (with_reducible refine (barscanref08_codeword.calls k (wrap64 ((8 * 3) + a1)) 1335 t194 _ A14.out).mono ?_); rintro e w' ⟨rfl, ⟨nd, rfl⟩⟩; refine ⟨_, rfl, ?_⟩))
      go_ret2
      exact ⟨by first | rfl | (simp; done) | (simp [*]; done), by repeat (first | exact Drawn0.refl _ | apply Drawn0.step)⟩
   ·rw [if_neg c11] at H
    have c11b0 : (a0 == 3) = false := beq_eq_false_iff_ne.mpr c11
    have c11b1 : (a0 != 3) = true := bne_iff_ne.mpr c11
    by_cases c15 : a0 = 4
    ·rw [if_pos c15] at H
     have c15b0 : (a0 == 4) = true := beq_iff_eq.mpr c15
     have c15b1 : (a0 != 4) = false := bne_eq_false_iff_eq.mpr c15
     clear c15
     by_cases c16 : a1 < 0
     ·rw [if_pos c16] at H
      have c16b0 : decide (a1 < 0) = true := decide_eq_true c16
      clear c16
      simp only [Option.some.injEq, Prod.mk.injEq] at H
      obtain ⟨rfl, rfl⟩ := H
      go_enter Try.func51, Try.ntmps51
      go_wp2
      go_ret2
      exact ⟨by first | rfl | (simp; done) | (simp [*]; done), by repeat (first | exact Drawn0.refl _ | apply Drawn0.step)⟩
     ·rw [if_neg c16] at H
      have c16b0 : decide (a1 < 0) = false := decide_eq_false c16
      clear c16
      by_cases c17 : a1 > 7
      ·rw [if_pos c17] at H
       have c17b0 : decide (7 < a1) = true := decide_eq_true c17
       clear c17
       simp only [Option.some.injEq, Prod.mk.injEq] at H
       obtain ⟨rfl, rfl⟩ := H
       go_enter Try.func51, Try.ntmps51
       go_wp2
       go_ret2
       exact ⟨by first | rfl | (simp; done) | (simp [*]; done), by repeat (first | exact Drawn0.refl _ | apply Drawn0.step)⟩
      ·rw [if_neg c17] at H
       have c17b0 : decide (7 < a1) = false := decide_eq_false c17
       clear c17
       replace H := Option.bind_eq_some_iff.mp H
       obtain ⟨t195, A180, H⟩ := H
       replace H : (some (Go.bits .xor .i64 t195 21522, 0)) = some (r1, r2) := H
       have A18 := Aside0.mk A180
       clear A180
       simp only [Option.some.injEq, Prod.mk.injEq] at H
       obtain ⟨rfl, rfl⟩ := H
       go_enter Try.func51, Try.ntmps51
       go_wp2_with (first | ((with_reducible refine gate_callee (f := 78) rfl ?_); refine goesL_ (some 26) rfl rfl Try.func78 (by kernel_rfl) rfl #[.int .i64 (wrap64 ((8 * 2) + a1)), .int .i64 1335] rfl (by (try simp only [List.map_toArray, List.map_cons, List.map_nil]); first | done | rfl | (simp only [List.length_drop, List.length_take]; rfl)) ?_; (with_reducible refine (barscanref08_codeword.calls k (wrap64 ((8 * 2) + a1)) 1335 t195 _ A18.out).mono ?_); rintro e w' ⟨rfl, ⟨nd, rfl⟩⟩; refine ⟨_, rfl, ?_⟩))
       go_ret2
       exact ⟨by first | rfl | (simp; done) | (simp [*]; done), by repeat (first | exact Drawn0.refl _ | apply Drawn0.step)⟩
    ·rw [if_neg c15] at H
     have c15b0 : (a0 == 4) = false := beq_eq_false_iff_ne.mpr c15
     have c15b1 : (a0 != 4) = true := bne_iff_ne.mpr c15
     simp only [Option.some.injEq, Prod.mk.injEq] at H
     obtain ⟨rfl, rfl⟩ := H
     go_enter Try.func51, Try.ntmps51
     go_wp2
     go_ret2
     exact ⟨by first | rfl | (simp; done) | (simp [*]; done), by repeat (first | exact Drawn0.refl _ | apply Drawn0.step)⟩

def barscanref08_Version.f (k : Nat) (a0 : Int) : Option (Int × Int) := if a0 < 7 then (some (0, 14)) else (if a0 > 40 then (some (0, 14)) else ((barscanref08_codeword.f k a0 7973).bind fun t371 => (some (t371, 0))))
set_option maxHeartbeats 8000000 in
set_option maxRecDepth 100000 in
theorem barscanref08_Version.calls (k : Nat) (a0 : Int) (r1 : Int) (r2 : Int) (w : World) (h : barscanref08_Version.f k a0 = some (r1, r2)) :
  Calls Try.prog 52 #[.int .i64 a0] w fun e w' => e = .returned (.tuple #[.int .i64 r1, .int .i64 r2]) ∧ Drawn0 w w' := by
 have H : (if a0 < 7 then (some (0, 14)) else (if a0 > 40 then (some (0, 14)) else ((barscanref08_codeword.f k a0 7973).bind fun t371 => (some (t371, 0))))) = some (r1, r2) := h
 clear h
 by_cases c2 : a0 < 7
 ·rw [if_pos c2] at H
  have c2b0 : decide (a0 < 7) = true := decide_eq_true c2
  clear c2
  simp only [Option.some.injEq, Prod.mk.injEq] at H
  obtain ⟨rfl, rfl⟩ := H
  go_enter Try.func52, Try.ntmps52
  go_wp2
  go_ret2
  exact ⟨by first | rfl | (simp; done) | (simp [*]; done), by repeat (first | exact Drawn0.refl _ | apply Drawn0.step)⟩
 ·rw [if_neg c2] at H
  have c2b0 : decide (a0 < 7) = false := decide_eq_false c2
  clear c2
  by_cases c3 : a0 > 40
  ·rw [if_pos c3] at H
   have c3b0 : decide (40 < a0) = true := decide_eq_true c3
   clear c3
   simp only [Option.some.injEq, Prod.mk.injEq] at H
   obtain ⟨rfl, rfl⟩ := H
   go_enter Try.func52, Try.ntmps52
   go_wp2
   go_ret2
   exact ⟨by first | rfl | (simp; done) | (simp [*]; done), by repeat (first | exact Drawn0.refl _ | apply Drawn0.step)⟩
  ·rw [if_neg c3] at H
   have c3b0 : decide (40 < a0) = false := decide_eq_false c3
   clear c3
   replace H := Option.bind_eq_some_iff.mp H
   obtain ⟨t371, A40, H⟩ := H
   replace H : (some (t371, 0)) = some (r1, r2) := H
   have A4 := Aside0.mk A40
   clear A40
   simp only [Option.some.injEq, Prod.mk.injEq] at H
   obtain ⟨rfl, rfl⟩ := H
   go_enter Try.func52, Try.ntmps52
   go_wp2_with (first | ((with_reducible refine gate_callee (f := 78) rfl ?_); refine goesL_ (some 11) rfl rfl Try.func78 (by kernel_rfl) rfl #[.int .i64 a0, .int .i64 7973] rfl (by (try simp only [List.map_toArray, List.map_cons, List.map_nil]); first | done | rfl | (simp only [List.length_drop, List.length_take]; rfl)) ?_; (with_reducible refine (barscanref08_codeword.calls k a0 7973 t371 _ A4.out).mono ?_); rintro e w' ⟨rfl, ⟨nd, rfl⟩⟩; refine ⟨_, rfl, ?_⟩))
   go_ret2
   exact ⟨by first | rfl | (simp; done) | (simp [*]; done), by repeat (first | exact Drawn0.refl _ | apply Drawn0.step)⟩

end Go.Proofs.Ytbbnagjfjgkgjaa.L
