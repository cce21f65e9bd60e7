-- Written by a program of this session out of the kit's print of the loaded functions (see wip/).
import Derived.Test.YtbbnagjfjgkgjaaK9Lx0
import Derived.Test.YtbbnagjfjgkgjaaK9Lx2
import Derived.Test.YtbbnagjfjgkgjaaK9Lx12
import Derived.Test.YtbbnagjfjgkgjaaK9Lx14
import Derived.Test.YtbbnagjfjgkgjaaK9Pta
import Derived.Test.YtbbnagjfjgkgjaaK9Alv
namespace Go.Proofs.Ytbbnagjfjgkgjaa.L
open Go.RowKit Go.Proofs.YtbbnagjfjgkgjaaW.PrintWords Go.Proofs.YtbbnagjfjgkgjaaW.PrintLast Go.Proofs.YtbbnagjfjgkgjaaW.PrintMore
attribute [local go_sem] max2_int min2_int max_two min_two max_three min_three max_four min_four   -- for this text's walks alone
set_option linter.unusedVariables false
set_option linter.unusedSimpArgs false

def barscanref20_Cells.l0 : Nat → Int → List Int → List Int → Int → Option (List Int × Int)
 | 0, _, _, _, _ => none
 | k + 1, x4, x6, x8, x9 => if x9 < (wrap64 (x4 * x4)) then (if x4 = 0 then (none) else ((barscanref20_purpose.f k x6 x4 (Int.tmod x9 x4) (wrap64 (Int.tdiv x9 x4))).bind fun t331 => (if 0 ≤ x9 then (if x9 < (x8.length : Int) then (barscanref20_Cells.l0 k x4 x6 (x8.set (x9 : Int).toNat t331) (wrap64 (x9 + 1))) else (none)) else (none)))) else (some (x8, 0))
def barscanref20_Cells.f (k : Nat) (a0 : Int) : Option (List Int × Int) := (barscanref17_Size.f a0).bind fun bt322 => (if bt322.2 = 0 then ((barscanref17_Aligns.f k a0).bind fun bt324 => (if 0 ≤ (wrap64 (bt322.1 * bt322.1)) then (if (wrap64 (bt322.1 * bt322.1) : Int).toNat ≤ 35184372088832 then (barscanref20_Cells.l0 k bt322.1 bt324.1 (List.replicate (wrap64 (bt322.1 * bt322.1) : Int).toNat 0) 0) else (none)) else (none))) else (some (([] : List Int), bt322.2)))
def barscanref20_Cells.T9 : Bool × List (List Nat × List Nat) := (true, [([], []), ([], []), ([], []), ([], []), ([], []), ([], []), ([4, 5], [4, 5]), ([], []), ([], []), ([7, 8], [7, 8]), ([2, 3, 6, 9], [2, 3, 6, 9]), ([0, 1, 0, 1, 2, 3, 4, 5, 6, 7, 8, 9, 10], [0, 1]), ([11, 10, 10, 0, 1, 2, 3, 4, 5, 6, 7, 8, 9, 10], [10, 11])])
def barscanref20_Cells.B9 : List Nat := [0, 0, 0, 0, 0, 0, 48, 0, 0, 384, 1020, 2047, 4095]
theorem barscanref20_Cells.tab9 : rtab .any (opsOf Try.f24 9) = barscanref20_Cells.T9 := by kernel_rfl
theorem barscanref20_Cells.bits9 : waitsOk barscanref20_Cells.T9.2 barscanref20_Cells.B9 = true := by kernel_rfl
set_option maxHeartbeats 8000000 in
set_option maxRecDepth 100000 in
theorem barscanref20_Cells.calls (k : Nat) (a0 : Int) (r1 : List Int) (r2 : Int) (w : World) (h : barscanref20_Cells.f k a0 = some (r1, r2)) :
  Calls Try.prog 24 #[.int .i64 a0] w fun e w' => ∃ v0_ : Value, e = .returned (.tuple #[v0_, .int .i64 r2]) ∧ Kd.R (Kd.int .i64) 55 w' w.heap.size (fun _ => True) v0_ r1 ∧ Below w.heap.size w w' := by
 have HB := Aside0.mk (Below.refl w.heap.size w)
 have H : ((barscanref17_Size.f a0).bind fun bt322 => (if bt322.2 = 0 then ((barscanref17_Aligns.f k a0).bind fun bt324 => (if 0 ≤ (wrap64 (bt322.1 * bt322.1)) then (if (wrap64 (bt322.1 * bt322.1) : Int).toNat ≤ 35184372088832 then (barscanref20_Cells.l0 k bt322.1 bt324.1 (List.replicate (wrap64 (bt322.1 * bt322.1) : Int).toNat 0) 0) else (none)) else (none))) else (some (([] : List Int), bt322.2)))) = some (r1, r2) := h
 clear h
 replace H := Option.bind_eq_some_iff.mp H
 obtain ⟨⟨t322, t323⟩, A20, H⟩ := H
 replace H : (if t323 = 0 then ((barscanref17_Aligns.f k a0).bind fun bt324 => (if 0 ≤ (wrap64 (t322 * t322)) then (if (wrap64 (t322 * t322) : Int).toNat ≤ 35184372088832 then (barscanref20_Cells.l0 k t322 bt324.1 (List.replicate (wrap64 (t322 * t322) : Int).toNat 0) 0) else (none)) else (none))) else (some (([] : List Int), t323))) = some (r1, r2) := H
 have A2 := Aside0.mk A20
 clear A20
 by_cases c3 : t323 = 0
 ·rw [if_pos c3] at H
  have c3b0 : (t323 == 0) = true := beq_iff_eq.mpr c3
  have c3b1 : (t323 != 0) = false := bne_eq_false_iff_eq.mpr c3
  clear c3
  replace H := Option.bind_eq_some_iff.mp H
  obtain ⟨⟨t324, t325⟩, A40, H⟩ := H
  replace H : (if 0 ≤ (wrap64 (t322 * t322)) then (if (wrap64 (t322 * t322) : Int).toNat ≤ 35184372088832 then (barscanref20_Cells.l0 k t322 t324 (List.replicate (wrap64 (t322 * t322) : Int).toNat 0) 0) else (none)) else (none)) = some (r1, r2) := H
  have A4 := Aside0.mk A40
  clear A40
  obtain ⟨ji5, hji5⟩ : ∃ j_ : Int, (wrap64 (t322 * t322)) = j_ := ⟨_, rfl⟩
  replace H : (if 0 ≤ (ji5) then (if (ji5 : Int).toNat ≤ 35184372088832 then (barscanref20_Cells.l0 k t322 t324 (List.replicate (ji5 : Int).toNat 0) 0) else (none)) else (none)) = some (r1, r2) := by first | (rw [hji5] at H; exact H) | (simp only [hji5] at H ⊢; exact H)
  (try rw [hji5] at A2)
  (try rw [hji5] at A4)
  have hji5w : (IntKind.i64.wrap (t322 * t322)) = ji5 := (i64_w _).trans hji5
  by_cases c6 : 0 ≤ (ji5)
  ·rw [if_pos c6] at H
   have c6b0 := eq_true c6
   have c6b1 : decide (0 ≤ (ji5)) = true := decide_eq_true c6
   clear c6
   by_cases c7 : (ji5 : Int).toNat ≤ 35184372088832
   ·rw [if_pos c7] at H
    have c7b0 := eq_true c7
    have c7b1 : decide ((ji5 : Int).toNat ≤ 35184372088832) = true := decide_eq_true c7
    clear c7
    obtain ⟨y328, hy328⟩ : ∃ y_ : List Int, y_ = (List.replicate (ji5 : Int).toNat 0) := ⟨_, rfl⟩
    replace H : (barscanref20_Cells.l0 k t322 t324 y328 0) = some (r1, r2) := by first | (rw [hy328]; with_reducible exact H) | (have H2_ := (Option.bind_some _ _).symm.trans H; rw [hy328]; with_reducible exact H2_) | (have H2_ := (Option.bind_some _ _).symm.trans H; with_reducible exact H2_) | with_reducible exact H | (rw [hy328]; exact H) | exact H
    have Ny328 := Aside0.mk hy328
    clear hy328
    have H' := Aside0.mk H
    clear H
    go_enter Try.func24, Try.ntmps24
    go_wp2_with (first | ((with_reducible refine gate_callee (f := 38) rfl ?_); refine goesL_ (some 12) rfl rfl Try.func38 (by kernel_rfl) rfl #[.int .i64 a0] rfl argA ?_; (with_reducible refine (barscanref17_Size.calls a0 t322 t323 _ A2.out).mono ?_); rintro e w' ⟨rfl, ⟨nd, rfl⟩⟩; refine ⟨_, rfl, ?_⟩) | ((with_reducible refine gate_callee (f := 29) rfl ?_); refine goesL_ (some 20) rfl rfl Try.func29 (by kernel_rfl) rfl #[.int .i64 a0] rfl argA ?_; (with_reducible refine (barscanref17_Aligns.calls k a0 t324 t325 _ A4.out).mono ?_); rintro e w8 ⟨v326, rfl, ho0, hb⟩; refine ⟨_, rfl, ?_⟩; have HO327 := Aside0.mk (Kd.R_lower ho0 (below_size (belA HB.out))); replace HB := Aside0.mk (below_step (belA HB.out) hb); (try clear hb); (try clear hb2); (try clear hk); (try clear hi); (try clear ho0)) | ((with_reducible refine gate_dst (N := 26) rfl ?_); refine Kd.R_make (Kd.int .i64) _ 55 rfl (N := 26) rfl 48 _ _ rfl ji5 rfl rfl Try.underlying48 (.int .i64 0) 8 info55 rfl (by decide) (by omega) 0 (ok := fun _ => True) (okp := fun _ => True) rfl (fun _ hk => hk) trivial (of_decide_eq_true (by first | (with_reducible assumption) | assumption)) (Nat.le_trans (Nat.mul_le_mul_right _ (of_decide_eq_true (by first | (with_reducible assumption) | assumption) : ji5.toNat ≤ 35184372088832)) (by omega)) (Below.refl _ _) (Nat.le_refl _) ?_; intro v329 w9 ho10 hb hg_ hnew_; clear hg_ hnew_; (first | rw [← Ny328.out] at ho10 | (simp only [Int.reduceToNat] at ho10; rw [← Ny328.out] at ho10)); have HO330 := Aside0.mk (Kd.R_lower ho10 (below_size (belA HB.out))); replace HO327 := Aside0.mk (Kd.R_below (rowA HO327.out) hb); replace HB := Aside0.mk (below_step (belA HB.out) hb); clear hb ho10))
    go_loopg [9] k (fun kq v9 w' => ∃ (x8_1 : List Int) (x9_1 : Int), v9 = .int .i64 x9_1 ∧ Aside0 (barscanref20_Cells.l0 kq t322 t324 x8_1 x9_1 = some (r1, r2)) ∧ Aside0 (kq ≤ k) ∧ Aside0 (Kd.R (Kd.int .i64) 3 w' w.heap.size (fun _ => True) v326 t324) ∧ Aside0 (Kd.R (Kd.int .i64) 55 w' w.heap.size (fun _ => True) v329 x8_1) ∧ Aside0 (Below w.heap.size w w'))
    case atStart => exact ⟨(y328), (0), smpA, H', ⟨Nat.le_refl _⟩, ⟨rowA HO327.out⟩, ⟨rowA HO330.out⟩, ⟨belA HB.out⟩⟩
    case round =>
     clear H'
     try clear c2
     try clear p2
     try clear c3
     try clear c3b0
     try clear c3b1
     try clear c6
     try clear c6b0
     try clear c6b1
     try clear p6
     try clear c7
     try clear c7b0
     try clear c7b1
     obtain ⟨x8_1, x9_1, rfl, HA, HK1, HO_6, HO_8, HB⟩ := hrel
     cases gk with
     | zero => exact absurd HA.out (by simp [barscanref20_Cells.l0])
     | succ k1 =>
      have H := HA.out
      clear HA
      simp only [barscanref20_Cells.l0] at H
      by_cases c11 : x9_1 < (wrap64 (t322 * t322))
      ·rw [if_pos c11] at H
       have c11b0 : decide (x9_1 < (wrap64 (t322 * t322))) = true := decide_eq_true c11
       have c11b0j := c11b0
       rw [hji5] at c11b0j
       clear c11
       by_cases c12 : t322 = 0
       ·rw [if_pos c12] at H
        exact absurd H (by simp)
       ·rw [if_neg c12] at H
        have c12b0 : (t322 == 0) = false := beq_eq_false_iff_ne.mpr c12
        have c12b1 : (t322 != 0) = true := bne_iff_ne.mpr c12
        replace H := Option.bind_eq_some_iff.mp H
        obtain ⟨t331, A130, H⟩ := H
        replace H : (if 0 ≤ x9_1 then (if x9_1 < (x8_1.length : Int) then (barscanref20_Cells.l0 k1 t322 t324 (x8_1.set (x9_1 : Int).toNat t331) (wrap64 (x9_1 + 1))) else (none)) else (none)) = some (r1, r2) := H
        have A13 := Aside0.mk A130
        clear A130
        by_cases c14 : 0 ≤ x9_1
        ·rw [if_pos c14] at H
         have c14b0 : decide (0 ≤ x9_1) = true := decide_eq_true c14
         clear c14
         by_cases c15 : x9_1 < (x8_1.length : Int)
         ·rw [if_pos c15] at H
          have c15b0 : decide (x9_1 < (x8_1.length : Int)) = true := decide_eq_true c15
          clear c15
          obtain ⟨y332, hy332⟩ : ∃ y_ : List Int, y_ = (x8_1.set (x9_1 : Int).toNat t331) := ⟨_, rfl⟩
          replace H : (barscanref20_Cells.l0 k1 t322 t324 y332 (wrap64 (x9_1 + 1))) = some (r1, r2) := by first | (rw [hy332]; with_reducible exact H) | (have H2_ := (Option.bind_some _ _).symm.trans H; rw [hy332]; with_reducible exact H2_) | (have H2_ := (Option.bind_some _ _).symm.trans H; with_reducible exact H2_) | with_reducible exact H | (rw [hy332]; exact H) | exact H
          have Ny332 := Aside0.mk hy332
          clear hy332
          have H' := Aside0.mk H
          clear H
          try go_wp2
          have n0_ := Aside0.mk (Kd.R_drew HO_6.out)
          have n1_ := Aside0.mk (Kd.R_drew HO_8.out)
          have n2_ := Aside0.mk (below_drew1 HB.out)
          clear HO_6
          clear HO_8
          clear HB
          have HO_6 := n0_
          have HO_8 := n1_
          have HB := n2_
          clear n0_ n1_ n2_
          obtain ⟨Ao18, co18, eo18⟩ := Kd.R_slice HO_6.out
          (first | subst eo18 | (injection eo18 with f1_ f2_ f3_; have f4_ := f1_.symm; have f5_ := f3_.symm; clear f1_ f2_ f3_; subst f4_; subst f5_))
          refine start_ (n := 13) (S := fun w' => True) (ds := [12]) #[false, false, false, false, false, false, false, false, false, false, false, false, false] (by kernel_rfl) rfl rfl trivial (fun hHeld => ?_); refine with_tabW barscanref20_Cells.tab9 barscanref20_Cells.bits9 (fun HT_ HW_ => ?_)
          generalize wr.drew = w17 at HO_6 HO_8 HB hHeld ⊢
          refine pure_ (i := 0) (N := some 34) (v := ?_) (a' := ?_) #[true, false, false, false, false, false, false, false, false, false, false, false, false] rfl rfl (any_of HT_.out (by kernel_rfl)) (fun _ _ _ h => h) (Or.inl ⟨by rfl, ?_⟩) ?_ ?_
          rotate_left
          ·intro w'
           go_simp
           with_reducible rfl
          rotate_left
          ·simp only [Act.put, List.setIfInBounds_toArray, List.set_cons_zero, List.set_cons_succ, i64_w, i32_w]
           rfl
          refine pure_ (i := 1) (N := some 35) (v := ?_) (a' := ?_) #[true, true, false, false, false, false, false, false, false, false, false, false, false] rfl rfl (any_of HT_.out (by kernel_rfl)) (fun _ _ _ h => h) (Or.inl ⟨by rfl, ?_⟩) ?_ ?_
          rotate_left
          ·intro w'
           go_simp
           with_reducible rfl
          rotate_left
          ·simp only [Act.put, List.setIfInBounds_toArray, List.set_cons_zero, List.set_cons_succ, i64_w, i32_w]
           rfl
          refine pure_ (i := 2) (N := some 36) (v := ?_) (a' := ?_) #[true, true, true, false, false, false, false, false, false, false, false, false, false] rfl rfl (any_of HT_.out (by kernel_rfl)) (fun _ _ _ h => h) (Or.inl ⟨by rfl, ?_⟩) ?_ ?_
          rotate_left
          ·intro w'
           go_simp
           with_reducible rfl
          rotate_left
          ·simp only [Act.put, List.setIfInBounds_toArray, List.set_cons_zero, List.set_cons_succ, i64_w, i32_w]
           rfl
          refine pure_ (i := 3) (N := some 37) (v := ?_) (a' := ?_) #[true, true, true, true, false, false, false, false, false, false, false, false, false] rfl rfl (any_of HT_.out (by kernel_rfl)) (fun _ _ _ h => h) (Or.inl ⟨by rfl, ?_⟩) ?_ ?_
          rotate_left
          ·intro w'
           go_simp
           with_reducible rfl
          rotate_left
          ·simp only [Act.put, List.setIfInBounds_toArray, List.set_cons_zero, List.set_cons_succ, i64_w, i32_w]
           rfl
          refine pure_ (i := 4) (N := some 38) (v := ?_) (a' := ?_) #[true, true, true, true, true, false, false, false, false, false, false, false, false] rfl rfl (any_of HT_.out (by kernel_rfl)) (fun _ _ _ h => h) (Or.inl ⟨by rfl, ?_⟩) ?_ ?_
          rotate_left
          ·intro w'
           go_simp
           with_reducible rfl
          rotate_left
          ·simp only [Act.put, List.setIfInBounds_toArray, List.set_cons_zero, List.set_cons_succ, i64_w, i32_w]
           rfl
          refine pure_ (i := 5) (N := some 39) (v := ?_) (a' := ?_) #[true, true, true, true, true, true, false, false, false, false, false, false, false] rfl rfl (any_of HT_.out (by kernel_rfl)) (fun _ _ _ h => h) (Or.inl ⟨by rfl, ?_⟩) ?_ ?_
          rotate_left
          ·intro w'
           go_simp
           with_reducible rfl
          rotate_left
          ·simp only [Act.put, List.setIfInBounds_toArray, List.set_cons_zero, List.set_cons_succ, i64_w, i32_w]
           rfl
          refine pure_ (i := 6) (N := some 40) (v := ?_) (a' := ?_) #[true, true, true, true, true, true, true, false, false, false, false, false, false] rfl rfl (any_of HT_.out (by kernel_rfl)) (fun _ _ _ h => h) (Or.inl ⟨by rfl, ?_⟩) ?_ ?_
          rotate_left
          ·intro w'
           go_simp
           with_reducible rfl
          rotate_left
          ·simp only [Act.put, List.setIfInBounds_toArray, List.set_cons_zero, List.set_cons_succ, i64_w, i32_w]
           rfl
          refine pure_ (i := 7) (N := some 41) (v := ?_) (a' := ?_) #[true, true, true, true, true, true, true, true, false, false, false, false, false] rfl rfl (any_of HT_.out (by kernel_rfl)) (fun _ _ _ h => h) (Or.inl ⟨by rfl, ?_⟩) ?_ ?_
          rotate_left
          ·intro w'
           go_simp
           with_reducible rfl
          rotate_left
          ·simp only [Act.put, List.setIfInBounds_toArray, List.set_cons_zero, List.set_cons_succ, i64_w, i32_w]
           rfl
          refine pure_ (i := 8) (N := some 42) (v := ?_) (a' := ?_) #[true, true, true, true, true, true, true, true, true, false, false, false, false] rfl rfl (any_of HT_.out (by kernel_rfl)) (fun _ _ _ h => h) (Or.inl ⟨by rfl, ?_⟩) ?_ ?_
          rotate_left
          ·intro w'
           go_simp
           with_reducible rfl
          rotate_left
          ·simp only [Act.put, List.setIfInBounds_toArray, List.set_cons_zero, List.set_cons_succ, i64_w, i32_w]
           rfl
          refine pure_ (i := 9) (N := some 43) (v := ?_) (a' := ?_) #[true, true, true, true, true, true, true, true, true, true, false, false, false] rfl rfl (any_of HT_.out (by kernel_rfl)) (fun _ _ _ h => h) (Or.inl ⟨by rfl, ?_⟩) ?_ ?_
          rotate_left
          ·intro w'
           go_simp
           with_reducible rfl
          rotate_left
          ·simp only [Act.put, List.setIfInBounds_toArray, List.set_cons_zero, List.set_cons_succ, i64_w, i32_w]
           rfl
          refine one_ (i := 10) (N := some 44) #[true, true, true, true, true, true, true, true, true, true, true, false, false] rfl rfl (one_of HT_.out (by kernel_rfl)) (by decide) (fun K hK => ?_)
          refine goes_ Try.func59 (by kernel_rfl) rfl #[.slice Ao18 t324.length co18, .int .i64 t322, .int .i64 (Int.tmod x9_1 t322), .int .i64 (wrap64 (Int.tdiv x9_1 t322))] (by rfl) rfl rfl argA ?_
          with_reducible refine (barscanref20_purpose.calls k1 _ _ t324 t322 (Int.tmod x9_1 t322) (wrap64 (Int.tdiv x9_1 t322)) t331 _ ?side1 ?side2 A13.out).mono ?_
          (case side1 => exact lowA (Kd.R_reads' HO_6.out).2.2)
          (case side2 => exact (Kd.R_reads' HO_6.out).2.1)
          rintro e w' ⟨rfl, ⟨nd, rfl⟩⟩
          refine ⟨_, rfl, ?_⟩
          have p16 : 0 ≤ (x9_1 : Int) := of_decide_eq_true (by first | (with_reducible assumption) | assumption)
          have q16 : (x9_1 : Int) < ((x8_1.length : Int) : Int) := of_decide_eq_true (by first | (with_reducible assumption) | assumption)
          obtain ⟨go16, co16, eo16, gb16, gl16, cl16, HG16⟩ := Kd.R_form HO_8.out (by omega)
          (first | cases eo16 | (injection eo16 with ea_ en_ ec_; (first | subst ea_ | (injection ea_ with ea_; subst ea_)); subst ec_; clear en_))
          have GB16 := Aside0.mk gb16
          have GG16 := Aside0.mk HG16
          clear gb16 gl16 HG16
          obtain ⟨hx16_0, hf16_0⟩ := Kd.R_celln 0 HO_8.out (x9_1 : Int) p16 q16
          replace p16 := eq_true p16
          replace q16 := eq_true q16
          have HP19 := Kd.R_putn HO_8.out (x9_1 : Int) t331
          rw [← Ny332.out] at HP19
          have HQ19 := Aside0.mk HP19
          clear HP19
          refine hK.out _ _ trivial (fun hHeld => ?_)
          clear hK K
          refine norm_ (a' := ?_) ?_ ?_
          rotate_left
          ·show Act.put _ (some 44) _ = _
           simp only [Act.put, List.setIfInBounds_toArray, List.set_cons_zero, List.set_cons_succ, i64_w, i32_w]
           rfl
          refine pure_ (i := 11) (N := some 45) (v := ?_) (a' := ?_) #[true, true, true, true, true, true, true, true, true, true, true, true, false] rfl rfl (any_of HT_.out (by kernel_rfl)) (fun _ _ _ h => h) (Or.inl ⟨by rfl, ?_⟩) ?_ ?_
          rotate_left
          ·intro w'
           go_simp
           with_reducible rfl
          rotate_left
          ·simp only [Act.put, List.setIfInBounds_toArray, List.set_cons_zero, List.set_cons_succ, i64_w, i32_w]
           rfl
          refine last_ (i := 12) (N := none) #[true, true, true, true, true, true, true, true, true, true, true, true, true] rfl rfl (one_of HT_.out (by kernel_rfl)) (by decide) (fun K hK => ?_)
          refine skip_ (w1 := ?_) (by rfl) rfl ?_ ?_
          rotate_left
          ·go_simp
           rfl
          refine hK.out _ _ ?_
          clear hK K
          refine done_ (done_of HT_.out (by kernel_rfl)) ?_
          try go_wp2
          go_roundg k1
          case measure => have := HK1.out; omega
          case rel => exact ⟨(y332), (wrap64 (x9_1 + 1)), smpA, H', ⟨by have := HK1.out; omega⟩, ⟨by (with_reducible repeat (first | apply Kd.R_alloc | apply Kd.R_drewN | apply Kd.R_drew)); exact Kd.R_mono (Kd.R_far (p := ⟨go16, (x9_1 : Int).toNat, none⟩) (Kd.R_types HO_6.out GG16.out (by decide)) (fun _ hk => hk.2) (.int .i64 t331)) (fun _ hk => trivial)⟩, ⟨rowA HQ19.out⟩, ⟨belA HB.out⟩⟩
         ·rw [if_neg c15] at H
          exact absurd H (by simp)
        ·rw [if_neg c14] at H
         exact absurd H (by simp)
      ·rw [if_neg c11] at H
       have c11b0 : decide (x9_1 < (wrap64 (t322 * t322))) = false := decide_eq_false c11
       have c11b0j := c11b0
       rw [hji5] at c11b0j
       clear c11
       simp only [Option.some.injEq, Prod.mk.injEq] at H
       obtain ⟨rfl, rfl⟩ := H
       go_wp2
       go_ret2
       exact ⟨_, by first | rfl | (simp [errW_none, errW_some] <;> rfl) | (simp only [← hji5]; first | rfl | (simp [errW_none, errW_some] <;> rfl)) | (simp [*, errW_none, errW_some] <;> rfl), rowA HO_8.out, belA HB.out⟩
   ·rw [if_neg c7] at H
    exact absurd H (by simp)
  ·rw [if_neg c6] at H
   exact absurd H (by simp)
 ·rw [if_neg c3] at H
  have c3b0 : (t323 == 0) = false := beq_eq_false_iff_ne.mpr c3
  have c3b1 : (t323 != 0) = true := bne_iff_ne.mpr c3
  simp only [Option.some.injEq, Prod.mk.injEq] at H
  obtain ⟨rfl, rfl⟩ := H
  go_enter Try.func24, Try.ntmps24
  go_wp2_with (first | ((with_reducible refine gate_callee (f := 38) rfl ?_); refine goesL_ (some 12) rfl rfl Try.func38 (by kernel_rfl) rfl #[.int .i64 a0] rfl argA ?_; (with_reducible refine (barscanref17_Size.calls a0 t322 t323 _ A2.out).mono ?_); rintro e w' ⟨rfl, ⟨nd, rfl⟩⟩; refine ⟨_, rfl, ?_⟩))
  go_ret2
  exact ⟨_, errA, nilA, belA HB.out⟩

mutual
def barscanref20_Path.l0 : Nat → List Int → Int → List (S45) → Bool → Int → Option ((List (S45)) × Int)
 | 0, _, _, _, _, _ => none
 | k + 1, x4, x6, x7, x8, x9 => if x9 > 0 then (if x9 = 6 then (barscanref20_Path.j1 k x4 x6 x7 x8 5) else (barscanref20_Path.j1 k x4 x6 x7 x8 x9)) else (some (x7, 0))
def barscanref20_Path.j1 : Nat → List Int → Int → List (S45) → Bool → Int → Option ((List (S45)) × Int)
 | 0, _, _, _, _, _ => none
 | k + 1, x4, x6, x7, x8, x9 => barscanref20_Path.l1 k x4 x6 x7 x8 x9 0
def barscanref20_Path.l1 : Nat → List Int → Int → List (S45) → Bool → Int → Int → Option ((List (S45)) × Int)
 | 0, _, _, _, _, _, _ => none
 | k + 1, x4, x6, x7, x8, x9, x10 => if x10 < x6 then (if x8 = true then (barscanref20_Path.j3 k x4 x6 x7 x8 x9 x10 (wrap64 ((wrap64 (x6 - 1)) - x10))) else (barscanref20_Path.j3 k x4 x6 x7 x8 x9 x10 x10)) else (barscanref20_Path.l0 k x4 x6 x7 (!x8) (wrap64 (x9 - 2)))
def barscanref20_Path.j3 : Nat → List Int → Int → List (S45) → Bool → Int → Int → Int → Option ((List (S45)) × Int)
 | 0, _, _, _, _, _, _, _ => none
 | k + 1, x4, x6, x7, x8, x9, x10, x11 => barscanref20_Path.l2 k x4 x6 x7 x8 x9 x10 x11 x9
def barscanref20_Path.l2 : Nat → List Int → Int → List (S45) → Bool → Int → Int → Int → Int → Option ((List (S45)) × Int)
 | 0, _, _, _, _, _, _, _, _ => none
 | k + 1, x4, x6, x7, x8, x9, x10, x11, x12 => if x12 ≥ (wrap64 (x9 - 1)) then (if 0 ≤ (wrap64 ((wrap64 (x11 * x6)) + x12)) then (if (wrap64 ((wrap64 (x11 * x6)) + x12)) < (x4.length : Int) then (if (rd x4 (wrap64 ((wrap64 (x11 * x6)) + x12))) = 1 then (if x7.length < 8796093022208 then (barscanref20_Path.l2 k x4 x6 (x7 ++ [(⟨x12, x11⟩ : S45)]) x8 x9 x10 x11 (wrap64 (x12 - 1))) else (none)) else (barscanref20_Path.l2 k x4 x6 x7 x8 x9 x10 x11 (wrap64 (x12 - 1)))) else (none)) else (none)) else (barscanref20_Path.l1 k x4 x6 x7 x8 x9 (wrap64 (x10 + 1)))
end
def barscanref20_Path.f (k : Nat) (a0 : Int) : Option ((List (S45)) × Int) := (barscanref20_Cells.f k a0).bind fun bt333 => (if bt333.2 = 0 then (barscanref20_Path.l0 k bt333.1 (wrap64 (17 + (wrap64 (4 * a0)))) ([] : List (S45)) true (wrap64 ((wrap64 (17 + (wrap64 (4 * a0)))) - 1))) else (some (([] : List (S45)), bt333.2)))
set_option maxHeartbeats 8000000 in
set_option maxRecDepth 100000 in
theorem barscanref20_Path.calls (k : Nat) (a0 : Int) (r1 : List (S45)) (r2 : Int) (w : World) (h : barscanref20_Path.f k a0 = some (r1, r2)) :
  Calls Try.prog 26 #[.int .i64 a0] w fun e w' => ∃ v0_ : Value, e = .returned (.tuple #[v0_, .int .i64 r2]) ∧ Kd.R k45 45 w' w.heap.size (fun _ => True) v0_ r1 ∧ Below w.heap.size w w' := by
 have hu45 := Try.underlying45
 have HB := Aside0.mk (Below.refl w.heap.size w)
 have H : ((barscanref20_Cells.f k a0).bind fun bt333 => (if bt333.2 = 0 then (barscanref20_Path.l0 k bt333.1 (wrap64 (17 + (wrap64 (4 * a0)))) ([] : List (S45)) true (wrap64 ((wrap64 (17 + (wrap64 (4 * a0)))) - 1))) else (some (([] : List (S45)), bt333.2)))) = some (r1, r2) := h
 clear h
 replace H := Option.bind_eq_some_iff.mp H
 obtain ⟨⟨t333, t334⟩, A20, H⟩ := H
 replace H : (if t334 = 0 then (barscanref20_Path.l0 k t333 (wrap64 (17 + (wrap64 (4 * a0)))) ([] : List (S45)) true (wrap64 ((wrap64 (17 + (wrap64 (4 * a0)))) - 1))) else (some (([] : List (S45)), t334))) = some (r1, r2) := H
 have A2 := Aside0.mk A20
 clear A20
 by_cases c3 : t334 = 0
 ·rw [if_pos c3] at H
  have c3b0 : (t334 == 0) = true := beq_iff_eq.mpr c3
  have c3b1 : (t334 != 0) = false := bne_eq_false_iff_eq.mpr c3
  clear c3
  have H' := Aside0.mk H
  clear H
  go_enter Try.func26, Try.ntmps26
  go_wp2_with (first | ((with_reducible refine gate_callee (f := 24) rfl ?_); refine goesL_ (some 15) rfl rfl Try.func24 (by kernel_rfl) rfl #[.int .i64 a0] rfl argA ?_; (with_reducible refine (barscanref20_Cells.calls k a0 t333 t334 _ A2.out).mono ?_); rintro e w4 ⟨v335, rfl, ho0, hb⟩; refine ⟨_, rfl, ?_⟩; have HO336 := Aside0.mk (Kd.R_lower ho0 (below_size (belA HB.out))); replace HB := Aside0.mk (below_step (belA HB.out) hb); (try clear hb); (try clear hb2); (try clear hk); (try clear hi); (try clear ho0)))
  go_loopg [7, 8, 9] k (fun kq v7 v8 v9 w' => ∃ (x7_1 : List (S45)) (x8_1 : Bool) (x9_1 : Int), v8 = .bool x8_1 ∧ v9 = .int .i64 x9_1 ∧ Aside0 (barscanref20_Path.l0 kq t333 (wrap64 (17 + (wrap64 (4 * a0)))) x7_1 x8_1 x9_1 = some (r1, r2)) ∧ Aside0 (kq ≤ k) ∧ Aside0 (Kd.R (Kd.int .i64) 55 w' w.heap.size (fun _ => True) v335 t333) ∧ Aside0 (Kd.R k45 45 w' w.heap.size (fun _ => True) v7 x7_1) ∧ Aside0 (Below w.heap.size w w'))
  case atStart => exact ⟨(([] : List (S45))), (true), (wrap64 ((wrap64 (17 + (wrap64 (4 * a0)))) - 1)), smpA, smpA, H', ⟨Nat.le_refl _⟩, ⟨rowA HO336.out⟩, ⟨nilA⟩, ⟨belA HB.out⟩⟩
  case round =>
   clear H'
   try clear c2
   try clear p2
   try clear c3
   try clear c3b0
   try clear c3b1
   obtain ⟨x7_1, x8_1, x9_1, rfl, rfl, HA, HK1, HO_4, HO_7, HB⟩ := hrel
   cases gk with
   | zero => exact absurd HA.out (by simp [barscanref20_Path.l0])
   | succ k1 =>
    have H := HA.out
    clear HA
    simp only [barscanref20_Path.l0] at H
    by_cases c5 : x9_1 > 0
    ·rw [if_pos c5] at H
     have c5b0 : decide (0 < x9_1) = true := decide_eq_true c5
     clear c5
     have HC6 := Aside0.mk H
     clear H
     go_upto_if 31 with (fail)
     go_cut [9] (fun v9 wc => ∃ (kq : Nat) (x9_5 : Int), v9 = .int .i64 x9_5 ∧ Aside0 (barscanref20_Path.j1 kq t333 (wrap64 (17 + (wrap64 (4 * a0)))) x7_1 x8_1 x9_5 = some (r1, r2)) ∧ Aside0 (kq ≤ k1) ∧ Aside0 (Kd.R (Kd.int .i64) 55 wc w.heap.size (fun _ => True) v335 t333) ∧ Aside0 (Kd.R k45 45 wc w.heap.size (fun _ => True) u7 x7_1) ∧ Aside0 (Below w.heap.size w wc))
     case first =>
      have H := HC6.out
      clear HC6
      by_cases c7 : x9_1 = 6
      ·rw [if_pos c7] at H
       have c7b0 : (x9_1 == 6) = true := beq_iff_eq.mpr c7
       have c7b1 : (x9_1 != 6) = false := bne_eq_false_iff_eq.mpr c7
       clear c7
       (first | rw [c7b0] | (simp only [i64_w, i32_w]; rw [c7b0]) | skip)
       have H' := Aside0.mk H
       clear H
       go_wp2
       go_meet
       case rel => exact ⟨_, (5), smpA, H', ⟨by have := HK1.out; first | omega | exact Nat.le_refl _⟩, ⟨rowA HO_4.out⟩, ⟨rowA HO_7.out⟩, ⟨belA HB.out⟩⟩
      ·rw [if_neg c7] at H
       have c7b0 : (x9_1 == 6) = false := beq_eq_false_iff_ne.mpr c7
       have c7b1 : (x9_1 != 6) = true := bne_iff_ne.mpr c7
       (first | rw [c7b0] | (simp only [i64_w, i32_w]; rw [c7b0]) | skip)
       have H' := Aside0.mk H
       clear H
       go_wp2
       go_meet
       case rel => exact ⟨_, (x9_1), smpA, H', ⟨by have := HK1.out; first | omega | exact Nat.le_refl _⟩, ⟨rowA HO_4.out⟩, ⟨rowA HO_7.out⟩, ⟨belA HB.out⟩⟩
     case rest =>
      clear HC6
      try clear c2
      try clear p2
      try clear c3
      try clear c3b0
      try clear c3b1
      try clear c5
      try clear c5b0
      try clear p6
      try clear c7
      try clear c7b0
      try clear c7b1
      try clear p2
      obtain ⟨kq, x9_5, rfl, HA, HJ5, HO_4, HO_7, HB⟩ := hcut
      cases kq with
      | zero => exact absurd HA.out (by simp [barscanref20_Path.j1])
      | succ kj5 =>
       have H := HA.out
       clear HA
       simp only [barscanref20_Path.j1] at H
       have H' := Aside0.mk H
       clear H
       go_wp2
       go_loopg [7, 10] kj5 (fun kq v7 v10 w' => ∃ (x7_3 : List (S45)) (x10_3 : Int), v10 = .int .i64 x10_3 ∧ Aside0 (barscanref20_Path.l1 kq t333 (wrap64 (17 + (wrap64 (4 * a0)))) x7_3 x8_1 x9_5 x10_3 = some (r1, r2)) ∧ Aside0 (kq ≤ kj5) ∧ Aside0 (Kd.R (Kd.int .i64) 55 w' w.heap.size (fun _ => True) v335 t333) ∧ Aside0 (Kd.R k45 45 w' w.heap.size (fun _ => True) v7 x7_3) ∧ Aside0 (Below w.heap.size w w'))
       case atStart => exact ⟨(x7_1), (0), smpA, H', ⟨Nat.le_refl _⟩, ⟨rowA HO_4.out⟩, ⟨rowA HO_7.out⟩, ⟨belA HB.out⟩⟩
       case round =>
        clear H'
        try clear c2
        try clear p2
        try clear c3
        try clear c3b0
        try clear c3b1
        try clear c5
        try clear c5b0
        try clear p6
        try clear c7
        try clear c7b0
        try clear c7b1
        try clear p2
        try clear p6
        obtain ⟨x7_3, x10_3, rfl, HA, HK3, HO_4, HO_7, HB⟩ := hrel
        cases gk with
        | zero => exact absurd HA.out (by simp [barscanref20_Path.l1])
        | succ k3 =>
         have H := HA.out
         clear HA
         simp only [barscanref20_Path.l1] at H
         by_cases c8 : x10_3 < (wrap64 (17 + (wrap64 (4 * a0))))
         ·rw [if_pos c8] at H
          have c8b0 : decide (x10_3 < (wrap64 (17 + (wrap64 (4 * a0))))) = true := decide_eq_true c8
          clear c8
          have HC9 := Aside0.mk H
          clear H
          go_upto_if 38 with (fail)
          go_cut [11] (fun v11 wc => ∃ (kq : Nat) (x11_8 : Int), v11 = .int .i64 x11_8 ∧ Aside0 (barscanref20_Path.j3 kq t333 (wrap64 (17 + (wrap64 (4 * a0)))) x7_3 x8_1 x9_5 x10_3 x11_8 = some (r1, r2)) ∧ Aside0 (kq ≤ k3) ∧ Aside0 (Kd.R (Kd.int .i64) 55 wc w.heap.size (fun _ => True) v335 t333) ∧ Aside0 (Kd.R k45 45 wc w.heap.size (fun _ => True) u7 x7_3) ∧ Aside0 (Below w.heap.size w wc))
          case first =>
           have H := HC9.out
           clear HC9
           by_cases c10 : x8_1 = true
           ·subst c10
            have H1 : (barscanref20_Path.j3 k3 t333 (wrap64 (17 + (wrap64 (4 * a0)))) x7_3 true x9_5 x10_3 (wrap64 ((wrap64 ((wrap64 (17 + (wrap64 (4 * a0)))) - 1)) - x10_3))) = some (r1, r2) := by rw [if_pos rfl] at H; exact H
            clear H
            have H := H1
            clear H1
            have H' := Aside0.mk H
            clear H
            go_wp2
            go_meet
            case rel => exact ⟨_, (wrap64 ((wrap64 ((wrap64 (17 + (wrap64 (4 * a0)))) - 1)) - x10_3)), smpA, H', ⟨by have := HK1.out; have := HJ5.out; have := HK3.out; first | omega | exact Nat.le_refl _⟩, ⟨rowA HO_4.out⟩, ⟨rowA HO_7.out⟩, ⟨belA HB.out⟩⟩
           ·replace c10 := Bool.eq_false_iff.mpr c10
            subst c10
            have H1 : (barscanref20_Path.j3 k3 t333 (wrap64 (17 + (wrap64 (4 * a0)))) x7_3 false x9_5 x10_3 x10_3) = some (r1, r2) := by rw [if_neg (show ¬ (false = true) by decide)] at H; exact H
            clear H
            have H := H1
            clear H1
            have H' := Aside0.mk H
            clear H
            go_wp2
            go_meet
            case rel => exact ⟨_, (x10_3), smpA, H', ⟨by have := HK1.out; have := HJ5.out; have := HK3.out; first | omega | exact Nat.le_refl _⟩, ⟨rowA HO_4.out⟩, ⟨rowA HO_7.out⟩, ⟨belA HB.out⟩⟩
          case rest =>
           clear HC9
           try clear c1
           try clear c2
           try clear p2
           try clear c3
           try clear c3b0
           try clear c3b1
           try clear c5
           try clear c5b0
           try clear p6
           try clear c7
           try clear c7b0
           try clear c7b1
           try clear c8
           try clear c8b0
           try clear c10
           try clear p2
           try clear p6
           obtain ⟨kq, x11_8, rfl, HA, HJ8, HO_4, HO_7, HB⟩ := hcut
           cases kq with
           | zero => exact absurd HA.out (by simp [barscanref20_Path.j3])
           | succ kj8 =>
            have H := HA.out
            clear HA
            simp only [barscanref20_Path.j3] at H
            have H' := Aside0.mk H
            clear H
            go_wp2
            go_loopg [7, 12] kj8 (fun kq v7 v12 w' => ∃ (x7_5 : List (S45)) (x12_5 : Int), v12 = .int .i64 x12_5 ∧ Aside0 (barscanref20_Path.l2 kq t333 (wrap64 (17 + (wrap64 (4 * a0)))) x7_5 x8_1 x9_5 x10_3 x11_8 x12_5 = some (r1, r2)) ∧ Aside0 (kq ≤ kj8) ∧ Aside0 (Kd.R (Kd.int .i64) 55 w' w.heap.size (fun _ => True) v335 t333) ∧ Aside0 (Kd.R k45 45 w' w.heap.size (fun _ => True) v7 x7_5) ∧ Aside0 (Below w.heap.size w w'))
            case atStart => exact ⟨(x7_3), (x9_5), smpA, H', ⟨Nat.le_refl _⟩, ⟨rowA HO_4.out⟩, ⟨rowA HO_7.out⟩, ⟨belA HB.out⟩⟩
            case round =>
             clear H'
             try clear c1
             try clear c2
             try clear p2
             try clear c3
             try clear c3b0
             try clear c3b1
             try clear c5
             try clear c5b0
             try clear p6
             try clear c7
             try clear c7b0
             try clear c7b1
             try clear c8
             try clear c8b0
             try clear c10
             try clear p2
             try clear p6
             obtain ⟨x7_5, x12_5, rfl, HA, HK5, HO_4, HO_7, HB⟩ := hrel
             cases gk with
             | zero => exact absurd HA.out (by simp [barscanref20_Path.l2])
             | succ k5 =>
              have H := HA.out
              clear HA
              simp only [barscanref20_Path.l2] at H
              by_cases c11 : x12_5 ≥ (wrap64 (x9_5 - 1))
              ·rw [if_pos c11] at H
               have c11b0 : decide ((wrap64 (x9_5 - 1)) ≤ x12_5) = true := decide_eq_true c11
               clear c11
               obtain ⟨ji12, hji12⟩ : ∃ j_ : Int, (wrap64 ((wrap64 (x11_8 * (wrap64 (17 + (wrap64 (4 * a0)))))) + x12_5)) = j_ := ⟨_, rfl⟩
               replace H : (if 0 ≤ (ji12) then (if (ji12) < (t333.length : Int) then (if (rd t333 (ji12)) = 1 then (if x7_5.length < 8796093022208 then (barscanref20_Path.l2 k5 t333 (wrap64 (17 + (wrap64 (4 * a0)))) (x7_5 ++ [(⟨x12_5, x11_8⟩ : S45)]) x8_1 x9_5 x10_3 x11_8 (wrap64 (x12_5 - 1))) else (none)) else (barscanref20_Path.l2 k5 t333 (wrap64 (17 + (wrap64 (4 * a0)))) x7_5 x8_1 x9_5 x10_3 x11_8 (wrap64 (x12_5 - 1)))) else (none)) else (none)) = some (r1, r2) := by first | (rw [hji12] at H; exact H) | (simp only [hji12] at H ⊢; exact H)
               have hji12w : (IntKind.i64.wrap ((wrap64 (x11_8 * (wrap64 (17 + (wrap64 (4 * a0)))))) + x12_5)) = ji12 := (i64_w _).trans hji12
               by_cases c13 : 0 ≤ (ji12)
               ·rw [if_pos c13] at H
                have c13b0 : decide (0 ≤ (ji12)) = true := decide_eq_true c13
                clear c13
                by_cases c14 : (ji12) < (t333.length : Int)
                ·rw [if_pos c14] at H
                 have c14b0 : decide ((ji12) < (t333.length : Int)) = true := decide_eq_true c14
                 clear c14
                 by_cases c15 : (rd t333 (ji12)) = 1
                 ·rw [if_pos c15] at H
                  have c15b0 : ((rd t333 (ji12)) == 1) = true := beq_iff_eq.mpr c15
                  have c15b1 : ((rd t333 (ji12)) != 1) = false := bne_eq_false_iff_eq.mpr c15
                  clear c15
                  by_cases c16 : x7_5.length < 8796093022208
                  ·rw [if_pos c16] at H
                   have LMc16 := Aside0.mk c16
                   clear c16
                   obtain ⟨y338, hy338⟩ : ∃ y_ : List (S45), y_ = (x7_5 ++ [(⟨x12_5, x11_8⟩ : S45)]) := ⟨_, rfl⟩
                   replace H : (barscanref20_Path.l2 k5 t333 (wrap64 (17 + (wrap64 (4 * a0)))) y338 x8_1 x9_5 x10_3 x11_8 (wrap64 (x12_5 - 1))) = some (r1, r2) := by first | (rw [hy338]; with_reducible exact H) | (have H2_ := (Option.bind_some _ _).symm.trans H; rw [hy338]; with_reducible exact H2_) | (have H2_ := (Option.bind_some _ _).symm.trans H; with_reducible exact H2_) | with_reducible exact H | (rw [hy338]; exact H) | exact H
                   have Ny338 := Aside0.mk hy338
                   clear hy338
                   have H' := Aside0.mk H
                   clear H
                   obtain ⟨Ao17, co17, eo17⟩ := Kd.R_slice HO_4.out
                   subst eo17
                   have p337 : 0 ≤ ((ji12) : Int) := of_decide_eq_true (by first | (with_reducible assumption) | assumption)
                   have q337 : (ji12) < (t333.length : Int) := of_decide_eq_true (by first | (with_reducible assumption) | assumption)
                   obtain ⟨ad337, e337, hx337_0⟩ := Kd.at_int (Kd.R_reads' HO_4.out).2.2 (ji12) p337 q337
                   cases e337
                   replace p337 := eq_true p337
                   replace q337 := eq_true q337
                   go_wp2_with (first | ((with_reducible refine gate_builtin (b := .append) (xs := #[.tmp 59, .tmp 63]) rfl ?_); at_builtin; refine Kd.R_append k45 (w0 := w) w.heap.size rfl (.tmp 59) (.tmp 63) 51 45 (.agg #[(.int .i64 0), (.int .i64 0)]) 16 rfl Try.underlying51 info45 rfl (by decide) (by omega) u7 x7_5 (⟨x12_5, x11_8⟩ : S45) [.int .i64 x12_5, .int .i64 x11_8] (fun _ => True) (fun _ => False) rfl rfl ?aP (fun _ hk => hk.elim) ?aF ?aO ?aB ?aS ?aL ?_; (case aP => exact k45_mkM _ _ _ (⟨x12_5, x11_8⟩ : S45)); (case aB => exact (belA HB.out)); (case aF => exact (fun _ _ => trivial)); (case aO => exact (rowA HO_7.out)); (case aS => exact (below_size (belA HB.out))); (case aL => have := LMc16.out; omega); intro v339 w18 ho hb hg hat; rw [← Ny338.out] at ho; have n0_ := Aside0.mk (Kd.R_over' (rowA HO_4.out) (Kd.R_typed (rowA HO_7.out)) (by decide) hg); have n1_ := Aside0.mk (hb); have n2_ := Aside0.mk (ho); clear HO_4; clear HB; clear HO_7; have HO_4 := n0_; have HB := n1_; have HO340 := n2_; clear n0_ n1_ n2_; clear ho hb hg hat))
                   go_roundg k5
                   case measure => have := HK1.out; have := HJ5.out; have := HK3.out; have := HJ8.out; have := HK5.out; omega
                   case rel => exact ⟨(y338), (wrap64 (x12_5 - 1)), smpA, H', ⟨by have := HK1.out; have := HJ5.out; have := HK3.out; have := HJ8.out; have := HK5.out; omega⟩, ⟨rowA HO_4.out⟩, ⟨rowA HO340.out⟩, ⟨belA HB.out⟩⟩
                  ·rw [if_neg c16] at H
                   exact absurd H (by simp)
                 ·rw [if_neg c15] at H
                  have c15b0 : ((rd t333 (ji12)) == 1) = false := beq_eq_false_iff_ne.mpr c15
                  have c15b1 : ((rd t333 (ji12)) != 1) = true := bne_iff_ne.mpr c15
                  have H' := Aside0.mk H
                  clear H
                  obtain ⟨Ao19, co19, eo19⟩ := Kd.R_slice HO_4.out
                  subst eo19
                  have p337 : 0 ≤ ((ji12) : Int) := of_decide_eq_true (by first | (with_reducible assumption) | assumption)
                  have q337 : (ji12) < (t333.length : Int) := of_decide_eq_true (by first | (with_reducible assumption) | assumption)
                  obtain ⟨ad337, e337, hx337_0⟩ := Kd.at_int (Kd.R_reads' HO_4.out).2.2 (ji12) p337 q337
                  cases e337
                  replace p337 := eq_true p337
                  replace q337 := eq_true q337
                  go_wp2
                  go_roundg k5
                  case measure => have := HK1.out; have := HJ5.out; have := HK3.out; have := HJ8.out; have := HK5.out; omega
                  case rel => exact ⟨(x7_5), (wrap64 (x12_5 - 1)), smpA, H', ⟨by have := HK1.out; have := HJ5.out; have := HK3.out; have := HJ8.out; have := HK5.out; omega⟩, ⟨rowA HO_4.out⟩, ⟨rowA HO_7.out⟩, ⟨belA HB.out⟩⟩
                ·rw [if_neg c14] at H
                 exact absurd H (by simp)
               ·rw [if_neg c13] at H
                exact absurd H (by simp)
              ·rw [if_neg c11] at H
               have c11b0 : decide ((wrap64 (x9_5 - 1)) ≤ x12_5) = false := decide_eq_false c11
               clear c11
               have H' := Aside0.mk H
               clear H
               go_wp2
               go_roundg k5
               case measure => have := HK1.out; have := HJ5.out; have := HK3.out; have := HJ8.out; have := HK5.out; omega
               case rel => exact ⟨(x7_5), (wrap64 (x10_3 + 1)), smpA, H', ⟨by have := HK1.out; have := HJ5.out; have := HK3.out; have := HJ8.out; have := HK5.out; omega⟩, ⟨rowA HO_4.out⟩, ⟨rowA HO_7.out⟩, ⟨belA HB.out⟩⟩
         ·rw [if_neg c8] at H
          have c8b0 : decide (x10_3 < (wrap64 (17 + (wrap64 (4 * a0))))) = false := decide_eq_false c8
          clear c8
          have H' := Aside0.mk H
          clear H
          go_wp2
          go_roundg k3
          case measure => have := HK1.out; have := HJ5.out; have := HK3.out; omega
          case rel => exact ⟨(x7_3), (!x8_1), (wrap64 (x9_5 - 2)), smpA, smpA, H', ⟨by have := HK1.out; have := HJ5.out; have := HK3.out; omega⟩, ⟨rowA HO_4.out⟩, ⟨rowA HO_7.out⟩, ⟨belA HB.out⟩⟩
    ·rw [if_neg c5] at H
     have c5b0 : decide (0 < x9_1) = false := decide_eq_false c5
     clear c5
     simp only [Option.some.injEq, Prod.mk.injEq] at H
     obtain ⟨rfl, rfl⟩ := H
     go_wp2
     go_ret2
     exact ⟨_, errA, rowA HO_7.out, belA HB.out⟩
 ·rw [if_neg c3] at H
  have c3b0 : (t334 == 0) = false := beq_eq_false_iff_ne.mpr c3
  have c3b1 : (t334 != 0) = true := bne_iff_ne.mpr c3
  simp only [Option.some.injEq, Prod.mk.injEq] at H
  obtain ⟨rfl, rfl⟩ := H
  go_enter Try.func26, Try.ntmps26
  go_wp2_with (first | ((with_reducible refine gate_callee (f := 24) rfl ?_); refine goesL_ (some 15) rfl rfl Try.func24 (by kernel_rfl) rfl #[.int .i64 a0] rfl argA ?_; (with_reducible refine (barscanref20_Cells.calls k a0 t333 t334 _ A2.out).mono ?_); rintro e w20 ⟨v335, rfl, ho0, hb⟩; refine ⟨_, rfl, ?_⟩; have HO336 := Aside0.mk (Kd.R_lower ho0 (below_size (belA HB.out))); replace HB := Aside0.mk (below_step (belA HB.out) hb); (try clear hb); (try clear hb2); (try clear hk); (try clear hi); (try clear ho0)))
  go_ret2
  exact ⟨_, errA, nilA, belA HB.out⟩

end Go.Proofs.Ytbbnagjfjgkgjaa.L
