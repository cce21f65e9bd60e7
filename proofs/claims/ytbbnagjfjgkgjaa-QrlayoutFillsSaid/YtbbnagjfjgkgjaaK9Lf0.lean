-- Written by a program of this session out of the kit's print of the loaded functions (see wip/).
import Derived.Test.YtbbnagjfjgkgjaaK9Lx0
namespace Go.Proofs.Ytbbnagjfjgkgjaa.L
open Go.RowKit Go.Proofs.YtbbnagjfjgkgjaaW.PrintWords Go.Proofs.YtbbnagjfjgkgjaaW.PrintLast Go.Proofs.YtbbnagjfjgkgjaaW.PrintMore
attribute [local go_sem] max2_int min2_int max_two min_two max_three min_three max_four min_four   -- for this text's walks alone
set_option linter.unusedVariables false
set_option linter.unusedSimpArgs false

def barscanref01_Ints.l0 : Nat → List Int → List Int → Int → Option (Bool)
 | 0, _, _, _ => none
 | k + 1, x0, x1, x5 => if x5 < (x0.length : Int) then (if 0 ≤ x5 then (if x5 < (x1.length : Int) then (if (rd x0 x5) = (rd x1 x5) then (barscanref01_Ints.l0 k x0 x1 (wrap64 (x5 + 1))) else (some false)) else (none)) else (none)) else (some true)
def barscanref01_Ints.f (k : Nat) (l0 : List Int) (l1 : List Int) : Option (Bool) := if (l0.length : Int) = (l1.length : Int) then (barscanref01_Ints.l0 k l0 l1 0) else (some false)
set_option maxHeartbeats 8000000 in
set_option maxRecDepth 100000 in
theorem barscanref01_Ints.calls (k : Nat) (A0 : Option Addr) (c0 : Nat) (l0 : List Int) (A1 : Option Addr) (c1 : Nat) (l1 : List Int) (r : Bool) (w : World) (hr0 : Kd.C (Kd.int .i64) w A0 l0.length l0) (hc0 : l0.length ≤ c0) (hr1 : Kd.C (Kd.int .i64) w A1 l1.length l1) (hc1 : l1.length ≤ c1) (h : barscanref01_Ints.f k l0 l1 = some r) :
  Calls Try.prog 34 #[.slice A0 l0.length c0, .slice A1 l1.length c1] w fun e w' => e = .returned (.bool r) ∧ Drawn0 w w' := by
 have HR0 := Aside0.mk hr0
 have HC0 := Aside0.mk hc0
 clear hr0 hc0
 have HR1 := Aside0.mk hr1
 have HC1 := Aside0.mk hc1
 clear hr1 hc1
 have H : (if (l0.length : Int) = (l1.length : Int) then (barscanref01_Ints.l0 k l0 l1 0) else (some false)) = some r := h
 clear h
 by_cases c3 : (l0.length : Int) = (l1.length : Int)
 ·rw [if_pos c3] at H
  have c3b0 : ((l0.length : Int) == (l1.length : Int)) = true := beq_iff_eq.mpr c3
  have c3b1 : ((l0.length : Int) != (l1.length : Int)) = false := bne_eq_false_iff_eq.mpr c3
  have c3b2 : (l0.length == l1.length) = true := by first | simpa using c3 | (simp at c3 ⊢; omega)
  clear c3
  have H' := Aside0.mk H
  clear H
  go_enter Try.func34, Try.ntmps34
  go_wp2
  repeat (go_quiet (fail); try go_wp2)
  go_loopg [5] k (fun kq v5 w' => ∃ (x5_1 : Int), v5 = .int .i64 x5_1 ∧ Aside0 (barscanref01_Ints.l0 kq l0 l1 x5_1 = some r) ∧ Aside0 (kq ≤ k) ∧ Drawn0 w w')
  case atStart => exact ⟨(0), smpA, H', ⟨Nat.le_refl _⟩, by repeat (first | exact Drawn0.refl _ | apply Drawn0.step)⟩
  case round =>
   clear H'
   try clear c1
   try clear p2
   try clear c3
   try clear c3b0
   try clear c3b1
   try clear c3b2
   obtain ⟨x5_1, rfl, HA, HK1, ⟨m1, rfl⟩⟩ := hrel
   cases gk with
   | zero => exact absurd HA.out (by simp [barscanref01_Ints.l0])
   | succ k1 =>
    have H := HA.out
    clear HA
    simp only [barscanref01_Ints.l0] at H
    by_cases c4 : x5_1 < (l0.length : Int)
    ·rw [if_pos c4] at H
     have c4b0 : decide (x5_1 < (l0.length : Int)) = true := decide_eq_true c4
     clear c4
     by_cases c5 : 0 ≤ x5_1
     ·rw [if_pos c5] at H
      have c5b0 : decide (0 ≤ x5_1) = true := decide_eq_true c5
      clear c5
      by_cases c6 : x5_1 < (l1.length : Int)
      ·rw [if_pos c6] at H
       have c6b0 : decide (x5_1 < (l1.length : Int)) = true := decide_eq_true c6
       clear c6
       by_cases c7 : (rd l0 x5_1) = (rd l1 x5_1)
       ·rw [if_pos c7] at H
        have c7b0 : ((rd l0 x5_1) == (rd l1 x5_1)) = true := beq_iff_eq.mpr c7
        have c7b1 : ((rd l0 x5_1) != (rd l1 x5_1)) = false := bne_eq_false_iff_eq.mpr c7
        clear c7
        have H' := Aside0.mk H
        clear H
        have p287 : 0 ≤ (x5_1 : Int) := of_decide_eq_true (by first | (with_reducible assumption) | assumption)
        have q287 : x5_1 < (l0.length : Int) := of_decide_eq_true (by first | (with_reducible assumption) | assumption)
        obtain ⟨ad287, e287, hx287_0⟩ := Kd.at_int HR0.out x5_1 p287 q287
        cases e287
        replace p287 := eq_true p287
        replace q287 := eq_true q287
        have p288 : 0 ≤ (x5_1 : Int) := of_decide_eq_true (by first | (with_reducible assumption) | assumption)
        have q288 : x5_1 < (l1.length : Int) := of_decide_eq_true (by first | (with_reducible assumption) | assumption)
        obtain ⟨ad288, e288, hx288_0⟩ := Kd.at_int HR1.out x5_1 p288 q288
        cases e288
        replace p288 := eq_true p288
        replace q288 := eq_true q288
        go_wp2
        repeat (go_quiet (fail); try go_wp2)
        go_roundg k1
        case measure => have := HK1.out; omega
        case rel => exact ⟨(wrap64 (x5_1 + 1)), smpA, H', ⟨by have := HK1.out; omega⟩, by repeat (first | exact Drawn0.refl _ | apply Drawn0.step)⟩
       ·rw [if_neg c7] at H
        have c7b0 : ((rd l0 x5_1) == (rd l1 x5_1)) = false := beq_eq_false_iff_ne.mpr c7
        have c7b1 : ((rd l0 x5_1) != (rd l1 x5_1)) = true := bne_iff_ne.mpr c7
        obtain rfl := Option.some.inj H
        have p287 : 0 ≤ (x5_1 : Int) := of_decide_eq_true (by first | (with_reducible assumption) | assumption)
        have q287 : x5_1 < (l0.length : Int) := of_decide_eq_true (by first | (with_reducible assumption) | assumption)
        obtain ⟨ad287, e287, hx287_0⟩ := Kd.at_int HR0.out x5_1 p287 q287
        cases e287
        replace p287 := eq_true p287
        replace q287 := eq_true q287
        have p288 : 0 ≤ (x5_1 : Int) := of_decide_eq_true (by first | (with_reducible assumption) | assumption)
        have q288 : x5_1 < (l1.length : Int) := of_decide_eq_true (by first | (with_reducible assumption) | assumption)
        obtain ⟨ad288, e288, hx288_0⟩ := Kd.at_int HR1.out x5_1 p288 q288
        cases e288
        replace p288 := eq_true p288
        replace q288 := eq_true q288
        go_wp2
        repeat (go_quiet (fail); try go_wp2)
        go_ret
        exact ⟨by first | rfl | (simp; done) | (simp [*]; done), by repeat (first | exact Drawn0.refl _ | apply Drawn0.step)⟩
      ·rw [if_neg c6] at H
       exact absurd H (by simp)
     ·rw [if_neg c5] at H
      exact absurd H (by simp)
    ·rw [if_neg c4] at H
     have c4b0 : decide (x5_1 < (l0.length : Int)) = false := decide_eq_false c4
     clear c4
     obtain rfl := Option.some.inj H
     go_wp2
     repeat (go_quiet (fail); try go_wp2)
     go_ret
     exact ⟨by first | rfl | (simp; done) | (simp [*]; done), by repeat (first | exact Drawn0.refl _ | apply Drawn0.step)⟩
 ·rw [if_neg c3] at H
  have c3b0 : ((l0.length : Int) == (l1.length : Int)) = false := beq_eq_false_iff_ne.mpr c3
  have c3b1 : ((l0.length : Int) != (l1.length : Int)) = true := bne_iff_ne.mpr c3
  have c3b2 : (l0.length == l1.length) = false := by first | simpa using c3 | (simp at c3 ⊢; omega)
  obtain rfl := Option.some.inj H
  go_enter Try.func34, Try.ntmps34
  go_wp2
  repeat (go_quiet (fail); try go_wp2)
  go_ret
  exact ⟨by first | rfl | (simp; done) | (simp [*]; done), by repeat (first | exact Drawn0.refl _ | apply Drawn0.step)⟩

mutual
def barscanref01_FromWords.j0 : Nat → List Int → Int → Bool → Option (List Bool × Int)
 | 0, _, _, _ => none
 | k + 1, x0, x1, x14 => if x14 = true then (some (([] : List Bool), 3)) else (if x1 = 0 then (none) else (if (x0.length : Int) > (wrap64 ((1048576 : Int) / x1)) then (some (([] : List Bool), 4)) else (barscanref01_FromWords.l0 k x0 x1 ([] : List Bool) 0)))
def barscanref01_FromWords.l0 : Nat → List Int → Int → List Bool → Int → Option (List Bool × Int)
 | 0, _, _, _, _ => none
 | k + 1, x0, x1, x6, x7 => if x7 < (x0.length : Int) then (if 0 ≤ x7 then (if (rd x0 x7) < 0 then (barscanref01_FromWords.j2 k x0 x1 x6 x7 true) else (if 0 ≤ (IntKind.u64.wrap (x1)) then (barscanref01_FromWords.j2 k x0 x1 x6 x7 (decide ((rd x0 x7) > (wrap64 ((shl .i64 1 (IntKind.u64.wrap (x1))) - 1))))) else (none))) else (none)) else (some (x6, 0))
def barscanref01_FromWords.j2 : Nat → List Int → Int → List Bool → Int → Bool → Option (List Bool × Int)
 | 0, _, _, _, _, _ => none
 | k + 1, x0, x1, x6, x7, x41 => if x41 = true then (some (([] : List Bool), 3)) else (barscanref01_FromWords.l1 k x0 x1 x6 x7 (wrap64 (x1 - 1)))
def barscanref01_FromWords.l1 : Nat → List Int → Int → List Bool → Int → Int → Option (List Bool × Int)
 | 0, _, _, _, _, _ => none
 | k + 1, x0, x1, x6, x7, x8 => if x8 ≥ 0 then (if 0 ≤ x7 then (if x7 < (x0.length : Int) then (if 0 ≤ (IntKind.u64.wrap (x8)) then (if x6.length < 140737488355328 then (barscanref01_FromWords.l1 k x0 x1 (x6 ++ [((Go.bits .and .i64 (shr .i64 (rd x0 x7) (IntKind.u64.wrap (x8))) 1) == 1)]) x7 (wrap64 (x8 - 1))) else (none)) else (none)) else (none)) else (none)) else (barscanref01_FromWords.l0 k x0 x1 x6 (wrap64 (x7 + 1)))
end
def barscanref01_FromWords.f (k : Nat) (l0 : List Int) (a1 : Int) : Option (List Bool × Int) := if a1 < 1 then (barscanref01_FromWords.j0 k l0 a1 true) else (barscanref01_FromWords.j0 k l0 a1 (decide (a1 > 62)))
set_option maxHeartbeats 8000000 in
set_option maxRecDepth 100000 in
theorem barscanref01_FromWords.calls (k : Nat) (A0 : Option Addr) (c0 : Nat) (l0 : List Int) (a1 : Int) (r1 : List Bool) (r2 : Int) (w : World) (hr0 : Kd.C (Kd.int .i64) w A0 l0.length l0) (hc0 : l0.length ≤ c0) (h : barscanref01_FromWords.f k l0 a1 = some (r1, r2)) :
  Calls Try.prog 65 #[.slice A0 l0.length c0, .int .i64 a1] w fun e w' => ∃ v0_ : Value, e = .returned (.tuple #[v0_, .int .i64 r2]) ∧ Kd.R Kd.bool 4 w' w.heap.size (fun _ => True) v0_ r1 ∧ Below w.heap.size w w' := by
 have HR0 := Aside0.mk hr0
 have HC0 := Aside0.mk hc0
 clear hr0 hc0
 have HB := Aside0.mk (Below.refl w.heap.size w)
 have H : (if a1 < 1 then (barscanref01_FromWords.j0 k l0 a1 true) else (barscanref01_FromWords.j0 k l0 a1 (decide (a1 > 62)))) = some (r1, r2) := h
 clear h
 have HC3 := Aside0.mk H
 clear H
 go_enter Try.func65, Try.ntmps65
 go_upto_region 1 with (fail)
 go_cut [14] (fun v14 wc => ∃ (kq : Nat) (x14_2 : Bool), v14 = .bool x14_2 ∧ Aside0 (barscanref01_FromWords.j0 kq l0 a1 x14_2 = some (r1, r2)) ∧ Aside0 (kq ≤ k) ∧ Aside0 (Below w.heap.size w wc))
 case first =>
  have H := HC3.out
  clear HC3
  by_cases c4 : a1 < 1
  ·rw [if_pos c4] at H
   have c4b0 : decide (a1 < 1) = true := decide_eq_true c4
   clear c4
   (first | rw [c4b0] | (simp only [i64_w, i32_w]; rw [c4b0]) | skip)
   have H' := Aside0.mk H
   clear H
   go_wp2
   go_meet
   case rel => exact ⟨_, (true), smpA, H', ⟨by first | omega | exact Nat.le_refl _⟩, ⟨belA HB.out⟩⟩
  ·rw [if_neg c4] at H
   have c4b0 : decide (a1 < 1) = false := decide_eq_false c4
   clear c4
   (first | rw [c4b0] | (simp only [i64_w, i32_w]; rw [c4b0]) | skip)
   have H' := Aside0.mk H
   clear H
   go_wp2
   go_meet
   case rel => exact ⟨_, (decide (a1 > 62)), smpA, H', ⟨by first | omega | exact Nat.le_refl _⟩, ⟨belA HB.out⟩⟩
 case rest =>
  clear HC3
  try clear p2
  try clear c4
  try clear c4b0
  obtain ⟨kq, x14_2, rfl, HA, HJ2, HB⟩ := hcut
  cases kq with
  | zero => exact absurd HA.out (by simp [barscanref01_FromWords.j0])
  | succ kj2 =>
   have H := HA.out
   clear HA
   simp only [barscanref01_FromWords.j0] at H
   by_cases c5 : x14_2 = true
   ·subst c5
    have H1 : (some (([] : List Bool), 3)) = some (r1, r2) := by rw [if_pos rfl] at H; exact H
    clear H
    have H := H1
    clear H1
    simp only [Option.some.injEq, Prod.mk.injEq] at H
    obtain ⟨rfl, rfl⟩ := H
    go_wp2
    go_ret2
    exact ⟨_, errA, nilA, belA HB.out⟩
   ·replace c5 := Bool.eq_false_iff.mpr c5
    subst c5
    have H1 : (if a1 = 0 then (none) else (if (l0.length : Int) > (wrap64 ((1048576 : Int) / a1)) then (some (([] : List Bool), 4)) else (barscanref01_FromWords.l0 kj2 l0 a1 ([] : List Bool) 0))) = some (r1, r2) := by rw [if_neg (show ¬ (false = true) by decide)] at H; exact H
    clear H
    have H := H1
    clear H1
    by_cases c6 : a1 = 0
    ·rw [if_pos c6] at H
     exact absurd H (by simp)
    ·rw [if_neg c6] at H
     have c6b0 : (a1 == 0) = false := beq_eq_false_iff_ne.mpr c6
     have c6b1 : (a1 != 0) = true := bne_iff_ne.mpr c6
     by_cases c7 : (l0.length : Int) > (wrap64 ((1048576 : Int) / a1))
     ·rw [if_pos c7] at H
      have tdE : Int.tdiv 1048576 a1 = 1048576 / a1 := Int.tdiv_eq_ediv_of_nonneg (by decide)
      have c7b0 : decide ((wrap64 ((1048576 : Int) / a1)) < (l0.length : Int)) = true := decide_eq_true c7
      clear c7
      simp only [Option.some.injEq, Prod.mk.injEq] at H
      obtain ⟨rfl, rfl⟩ := H
      go_wp2
      go_ret2
      exact ⟨_, errA, nilA, belA HB.out⟩
     ·rw [if_neg c7] at H
      have tdE : Int.tdiv 1048576 a1 = 1048576 / a1 := Int.tdiv_eq_ediv_of_nonneg (by decide)
      have c7b0 : decide ((wrap64 ((1048576 : Int) / a1)) < (l0.length : Int)) = false := decide_eq_false c7
      clear c7
      have H' := Aside0.mk H
      clear H
      go_wp2
      go_loopg [6, 7] kj2 (fun kq v6 v7 w' => ∃ (x6_2 : List Bool) (x7_2 : Int), v7 = .int .i64 x7_2 ∧ Aside0 (barscanref01_FromWords.l0 kq l0 a1 x6_2 x7_2 = some (r1, r2)) ∧ Aside0 (kq ≤ kj2) ∧ Aside0 (Kd.R Kd.bool 4 w' w.heap.size (fun _ => True) v6 x6_2) ∧ Aside0 (Below w.heap.size w w'))
      case atStart => exact ⟨(([] : List Bool)), (0), smpA, H', ⟨Nat.le_refl _⟩, ⟨nilA⟩, ⟨belA HB.out⟩⟩
      case round =>
       clear H'
       try clear p2
       try clear c4
       try clear c4b0
       try clear c5
       try clear c6
       try clear c6b0
       try clear c6b1
       try clear p6
       try clear c7
       try clear c7b0
       try clear p2
       obtain ⟨x6_2, x7_2, rfl, HA, HK2, HO_6, HB⟩ := hrel
       cases gk with
       | zero => exact absurd HA.out (by simp [barscanref01_FromWords.l0])
       | succ k2 =>
        have H := HA.out
        clear HA
        simp only [barscanref01_FromWords.l0] at H
        by_cases c8 : x7_2 < (l0.length : Int)
        ·rw [if_pos c8] at H
         have c8b0 : decide (x7_2 < (l0.length : Int)) = true := decide_eq_true c8
         clear c8
         have HC9 := Aside0.mk H
         clear H
         go_upto_region 9 with (fail)
         go_cut [41] (fun v41 wc => ∃ (kq : Nat) (x41_8 : Bool), v41 = .bool x41_8 ∧ Aside0 (barscanref01_FromWords.j2 kq l0 a1 x6_2 x7_2 x41_8 = some (r1, r2)) ∧ Aside0 (kq ≤ k2) ∧ Aside0 (Kd.R Kd.bool 4 wc w.heap.size (fun _ => True) u6 x6_2) ∧ Aside0 (Below w.heap.size w wc))
         case first =>
          have H := HC9.out
          clear HC9
          by_cases c10 : 0 ≤ x7_2
          ·rw [if_pos c10] at H
           have c10b0 : decide (0 ≤ x7_2) = true := decide_eq_true c10
           clear c10
           (first | rw [c10b0] | (simp only [i64_w, i32_w]; rw [c10b0]) | skip)
           by_cases c11 : (rd l0 x7_2) < 0
           ·rw [if_pos c11] at H
            have c11b0 : decide ((rd l0 x7_2) < 0) = true := decide_eq_true c11
            clear c11
            have H' := Aside0.mk H
            clear H
            have p229 : 0 ≤ (x7_2 : Int) := of_decide_eq_true (by first | (with_reducible assumption) | assumption)
            have q229 : x7_2 < (l0.length : Int) := of_decide_eq_true (by first | (with_reducible assumption) | assumption)
            obtain ⟨ad229, e229, hx229_0⟩ := Kd.at_int HR0.out x7_2 p229 q229
            cases e229
            replace hx229_0 := (HB.out.cell (World.block_lt_of_cell? w _ hx229_0)).trans hx229_0
            replace p229 := eq_true p229
            replace q229 := eq_true q229
            go_wp2
            go_meet
            case rel => exact ⟨_, (true), smpA, H', ⟨by have := HJ2.out; have := HK2.out; first | omega | exact Nat.le_refl _⟩, ⟨rowA HO_6.out⟩, ⟨belA HB.out⟩⟩
           ·rw [if_neg c11] at H
            have c11b0 : decide ((rd l0 x7_2) < 0) = false := decide_eq_false c11
            clear c11
            obtain ⟨ji12, hji12⟩ : ∃ j_ : Int, (IntKind.u64.wrap (a1)) = j_ := ⟨_, rfl⟩
            replace H : (if 0 ≤ (ji12) then (barscanref01_FromWords.j2 k2 l0 a1 x6_2 x7_2 (decide ((rd l0 x7_2) > (wrap64 ((shl .i64 1 (ji12)) - 1))))) else (none)) = some (r1, r2) := by first | (rw [hji12] at H; exact H) | (simp only [hji12] at H ⊢; exact H)
            by_cases c13 : 0 ≤ (ji12)
            ·rw [if_pos c13] at H
             have c13b0 := eq_true c13
             have c13b1 : decide (0 ≤ (ji12)) = true := decide_eq_true c13
             clear c13
             obtain ⟨ji14, hji14⟩ : ∃ j_ : Int, (shl .i64 1 (ji12)) = j_ := ⟨_, rfl⟩
             replace H : (barscanref01_FromWords.j2 k2 l0 a1 x6_2 x7_2 (decide ((rd l0 x7_2) > (wrap64 ((ji14) - 1))))) = some (r1, r2) := by first | (rw [hji14] at H; exact H) | (simp only [hji14] at H ⊢; exact H)
             have hji14_ : (IntKind.i64.wrap (1 * 2 ^ min (ji12).toNat 64)) = ji14 := hji14
             have hji14z : (ji12) ≤ 64 → (IntKind.i64.wrap (1 * 2 ^ (ji12).toNat)) = ji14 := shl_small hji14
             have hji14u : (IntKind.i64.wrap (2 ^ min (ji12).toNat 64)) = ji14 := by have h_ := hji14_; rw [Int.one_mul] at h_; exact h_
             have hji14v : (ji12) ≤ 64 → (IntKind.i64.wrap (2 ^ (ji12).toNat)) = ji14 := fun hle_ => by have h_ := hji14z hle_; rw [Int.one_mul] at h_; exact h_
             have hji14y : (wrap64 (1 * 2 ^ min (ji12).toNat 64)) = ji14 := (i64_w _).symm.trans hji14_
             have hji14x : (ji12) ≤ 64 → (wrap64 (1 * 2 ^ (ji12).toNat)) = ji14 := fun h_ => (i64_w _).symm.trans (hji14z h_)
             have H' := Aside0.mk H
             clear H
             have p229 : 0 ≤ (x7_2 : Int) := of_decide_eq_true (by first | (with_reducible assumption) | assumption)
             have q229 : x7_2 < (l0.length : Int) := of_decide_eq_true (by first | (with_reducible assumption) | assumption)
             obtain ⟨ad229, e229, hx229_0⟩ := Kd.at_int HR0.out x7_2 p229 q229
             cases e229
             replace hx229_0 := (HB.out.cell (World.block_lt_of_cell? w _ hx229_0)).trans hx229_0
             replace p229 := eq_true p229
             replace q229 := eq_true q229
             have p230 : 0 ≤ (x7_2 : Int) := of_decide_eq_true (by first | (with_reducible assumption) | assumption)
             have q230 : x7_2 < (l0.length : Int) := of_decide_eq_true (by first | (with_reducible assumption) | assumption)
             obtain ⟨ad230, e230, hx230_0⟩ := Kd.at_int HR0.out x7_2 p230 q230
             obtain rfl : ad229 = ad230 := (by injection e230)
             replace hx230_0 := (HB.out.cell (World.block_lt_of_cell? w _ hx230_0)).trans hx230_0
             replace p230 := eq_true p230
             replace q230 := eq_true q230
             go_wp2
             go_meet
             case rel => exact ⟨_, (decide ((rd l0 x7_2) > (wrap64 ((ji14) - 1)))), (by first | rfl | (simp; done) | (simp only [← hji14] <;> (first | rfl | simp)) | (simp [*]; done)), H', ⟨by have := HJ2.out; have := HK2.out; first | omega | exact Nat.le_refl _⟩, ⟨rowA HO_6.out⟩, ⟨belA HB.out⟩⟩
            ·rw [if_neg c13] at H
             exact absurd H (by simp)
          ·rw [if_neg c10] at H
           exact absurd H (by simp)
         case rest =>
          clear HC9
          try clear c1
          try clear p2
          try clear q2
          try clear hx2
          try clear c4
          try clear c4b0
          try clear c5
          try clear c6
          try clear c6b0
          try clear c6b1
          try clear p6
          try clear c7
          try clear c7b0
          try clear c8
          try clear c8b0
          try clear c10
          try clear c10b0
          try clear c11
          try clear c11b0
          try clear c13
          try clear c13b0
          try clear c13b1
          try clear hx229_0
          try clear hx230_0
          try clear p2
          try clear p229
          try clear p230
          try clear p6
          try clear q229
          try clear q230
          obtain ⟨kq, x41_8, rfl, HA, HJ8, HO_6, HB⟩ := hcut
          cases kq with
          | zero => exact absurd HA.out (by simp [barscanref01_FromWords.j2])
          | succ kj8 =>
           have H := HA.out
           clear HA
           simp only [barscanref01_FromWords.j2] at H
           by_cases c15 : x41_8 = true
           ·subst c15
            have H1 : (some (([] : List Bool), 3)) = some (r1, r2) := by rw [if_pos rfl] at H; exact H
            clear H
            have H := H1
            clear H1
            simp only [Option.some.injEq, Prod.mk.injEq] at H
            obtain ⟨rfl, rfl⟩ := H
            go_wp2
            go_ret2
            exact ⟨_, errA, nilA, belA HB.out⟩
           ·replace c15 := Bool.eq_false_iff.mpr c15
            subst c15
            have H1 : (barscanref01_FromWords.l1 kj8 l0 a1 x6_2 x7_2 (wrap64 (a1 - 1))) = some (r1, r2) := by rw [if_neg (show ¬ (false = true) by decide)] at H; exact H
            clear H
            have H := H1
            clear H1
            have H' := Aside0.mk H
            clear H
            go_wp2
            go_loopg [6, 8] kj8 (fun kq v6 v8 w' => ∃ (x6_4 : List Bool) (x8_4 : Int), v8 = .int .i64 x8_4 ∧ Aside0 (barscanref01_FromWords.l1 kq l0 a1 x6_4 x7_2 x8_4 = some (r1, r2)) ∧ Aside0 (kq ≤ kj8) ∧ Aside0 (Kd.R Kd.bool 4 w' w.heap.size (fun _ => True) v6 x6_4) ∧ Aside0 (Below w.heap.size w w'))
            case atStart => exact ⟨(x6_2), (wrap64 (a1 - 1)), smpA, H', ⟨Nat.le_refl _⟩, ⟨rowA HO_6.out⟩, ⟨belA HB.out⟩⟩
            case round =>
             clear H'
             try clear c1
             try clear p2
             try clear q2
             try clear hx2
             try clear c4
             try clear c4b0
             try clear c5
             try clear c6
             try clear c6b0
             try clear c6b1
             try clear p6
             try clear c7
             try clear c7b0
             try clear c8
             try clear c8b0
             try clear c10
             try clear c10b0
             try clear c11
             try clear c11b0
             try clear c13
             try clear c13b0
             try clear c13b1
             try clear c15
             try clear hx229_0
             try clear hx230_0
             try clear p2
             try clear p229
             try clear p230
             try clear p6
             try clear q2
             try clear q229
             try clear q230
             obtain ⟨x6_4, x8_4, rfl, HA, HK4, HO_6, HB⟩ := hrel
             cases gk with
             | zero => exact absurd HA.out (by simp [barscanref01_FromWords.l1])
             | succ k4 =>
              have H := HA.out
              clear HA
              simp only [barscanref01_FromWords.l1] at H
              by_cases c16 : x8_4 ≥ 0
              ·rw [if_pos c16] at H
               have c16b0 : decide (0 ≤ x8_4) = true := decide_eq_true c16
               clear c16
               by_cases c17 : 0 ≤ x7_2
               ·rw [if_pos c17] at H
                have c17b0 : decide (0 ≤ x7_2) = true := decide_eq_true c17
                clear c17
                by_cases c18 : x7_2 < (l0.length : Int)
                ·rw [if_pos c18] at H
                 have c18b0 : decide (x7_2 < (l0.length : Int)) = true := decide_eq_true c18
                 clear c18
                 obtain ⟨ji19, hji19⟩ : ∃ j_ : Int, (IntKind.u64.wrap (x8_4)) = j_ := ⟨_, rfl⟩
                 replace H : (if 0 ≤ (ji19) then (if x6_4.length < 140737488355328 then (barscanref01_FromWords.l1 k4 l0 a1 (x6_4 ++ [((Go.bits .and .i64 (shr .i64 (rd l0 x7_2) (ji19)) 1) == 1)]) x7_2 (wrap64 (x8_4 - 1))) else (none)) else (none)) = some (r1, r2) := by first | (rw [hji19] at H; exact H) | (simp only [hji19] at H ⊢; exact H)
                 by_cases c20 : 0 ≤ (ji19)
                 ·rw [if_pos c20] at H
                  have c20b0 := eq_true c20
                  have c20b1 : decide (0 ≤ (ji19)) = true := decide_eq_true c20
                  clear c20
                  obtain ⟨ji21, hji21⟩ : ∃ j_ : Int, (shr .i64 (rd l0 x7_2) (ji19)) = j_ := ⟨_, rfl⟩
                  replace H : (if x6_4.length < 140737488355328 then (barscanref01_FromWords.l1 k4 l0 a1 (x6_4 ++ [((Go.bits .and .i64 (ji21) 1) == 1)]) x7_2 (wrap64 (x8_4 - 1))) else (none)) = some (r1, r2) := by first | (rw [hji21] at H; exact H) | (simp only [hji21] at H ⊢; exact H)
                  have hji21_ : ((rd l0 x7_2) / 2 ^ min (ji19).toNat 64) = ji21 := hji21
                  have hji21z : (ji19) ≤ 64 → ((rd l0 x7_2) / 2 ^ (ji19).toNat) = ji21 := shr_small hji21
                  by_cases c22 : x6_4.length < 140737488355328
                  ·rw [if_pos c22] at H
                   have LMc22 := Aside0.mk c22
                   clear c22
                   obtain ⟨y232, hy232⟩ : ∃ y_ : List Bool, y_ = (x6_4 ++ [((Go.bits .and .i64 (ji21) 1) == 1)]) := ⟨_, rfl⟩
                   replace H : (barscanref01_FromWords.l1 k4 l0 a1 y232 x7_2 (wrap64 (x8_4 - 1))) = some (r1, r2) := by first | (rw [hy232]; with_reducible exact H) | (have H2_ := (Option.bind_some _ _).symm.trans H; rw [hy232]; with_reducible exact H2_) | (have H2_ := (Option.bind_some _ _).symm.trans H; with_reducible exact H2_) | with_reducible exact H | (rw [hy232]; exact H) | exact H
                   have Ny232 := Aside0.mk hy232
                   clear hy232
                   have H' := Aside0.mk H
                   clear H
                   have p231 : 0 ≤ (x7_2 : Int) := of_decide_eq_true (by first | (with_reducible assumption) | assumption)
                   have q231 : x7_2 < (l0.length : Int) := of_decide_eq_true (by first | (with_reducible assumption) | assumption)
                   obtain ⟨ad231, e231, hx231_0⟩ := Kd.at_int HR0.out x7_2 p231 q231
                   cases e231
                   replace hx231_0 := (HB.out.cell (World.block_lt_of_cell? w _ hx231_0)).trans hx231_0
                   replace p231 := eq_true p231
                   replace q231 := eq_true q231
                   go_wp2_with (first | ((with_reducible refine gate_builtin (b := .append) (xs := #[.tmp 48, .tmp 58]) rfl ?_); at_builtin; refine Kd.R_append Kd.bool (w0 := w) w.heap.size rfl (.tmp 48) (.tmp 58) 22 4 (.bool false) 1 rfl Try.underlying22 info4 rfl (by decide) (by omega) u6 x6_4 ((Go.bits .and .i64 (ji21) 1) == 1) [.bool ((Go.bits .and .i64 (ji21) 1) == 1)] (fun _ => True) (fun _ => False) rfl rfl ?aP (fun _ hk => hk.elim) ?aF ?aO ?aB ?aS ?aL ?_; (case aP => exact rfl); (case aB => exact (belA HB.out)); (case aF => exact (fun _ _ => trivial)); (case aO => exact (rowA HO_6.out)); (case aS => exact (below_size (belA HB.out))); (case aL => have := LMc22.out; omega); intro v233 w23 ho hb hg hat; rw [← Ny232.out] at ho; have n0_ := Aside0.mk (hb); have n1_ := Aside0.mk (ho); clear HB; clear HO_6; have HB := n0_; have HO234 := n1_; clear n0_ n1_; clear ho hb hg hat))
                   go_roundg k4
                   case measure => have := HJ2.out; have := HK2.out; have := HJ8.out; have := HK4.out; omega
                   case rel => exact ⟨(y232), (wrap64 (x8_4 - 1)), smpA, H', ⟨by have := HJ2.out; have := HK2.out; have := HJ8.out; have := HK4.out; omega⟩, ⟨rowA HO234.out⟩, ⟨belA HB.out⟩⟩
                  ·rw [if_neg c22] at H
                   exact absurd H (by simp)
                 ·rw [if_neg c20] at H
                  exact absurd H (by simp)
                ·rw [if_neg c18] at H
                 exact absurd H (by simp)
               ·rw [if_neg c17] at H
                exact absurd H (by simp)
              ·rw [if_neg c16] at H
               have c16b0 : decide (0 ≤ x8_4) = false := decide_eq_false c16
               clear c16
               have H' := Aside0.mk H
               clear H
               go_wp2
               go_roundg k4
               case measure => have := HJ2.out; have := HK2.out; have := HJ8.out; have := HK4.out; omega
               case rel => exact ⟨(x6_4), (wrap64 (x7_2 + 1)), smpA, H', ⟨by have := HJ2.out; have := HK2.out; have := HJ8.out; have := HK4.out; omega⟩, ⟨rowA HO_6.out⟩, ⟨belA HB.out⟩⟩
        ·rw [if_neg c8] at H
         have c8b0 : decide (x7_2 < (l0.length : Int)) = false := decide_eq_false c8
         clear c8
         simp only [Option.some.injEq, Prod.mk.injEq] at H
         obtain ⟨rfl, rfl⟩ := H
         go_wp2
         go_ret2
         exact ⟨_, errA, rowA HO_6.out, belA HB.out⟩

mutual
def barscanref01_Words.j0 : Nat → List Bool → Int → Bool → Bool → Option (List Int × Int)
 | 0, _, _, _, _ => none
 | k + 1, x0, x1, x2, x17 => if x17 = true then (some (([] : List Int), 3)) else (barscanref01_Words.l0 k x0 x1 x2 ([] : List Int) 0)
def barscanref01_Words.l0 : Nat → List Bool → Int → Bool → List Int → Int → Option (List Int × Int)
 | 0, _, _, _, _, _ => none
 | k + 1, x0, x1, x2, x8, x9 => if x9 < (x0.length : Int) then (barscanref01_Words.l1 k x0 x1 x2 x8 x9 0 x9) else (some (x8, 0))
def barscanref01_Words.l1 : Nat → List Bool → Int → Bool → List Int → Int → Int → Int → Option (List Int × Int)
 | 0, _, _, _, _, _, _, _ => none
 | k + 1, x0, x1, x2, x8, x9, x10, x11 => if x11 < (wrap64 (x9 + x1)) then (if x11 < (x0.length : Int) then (if 0 ≤ x11 then (if rdOf false x0 x11 = true then (barscanref01_Words.l1 k x0 x1 x2 x8 x9 (wrap64 ((wrap64 (2 * x10)) + 1)) (wrap64 (x11 + 1))) else (if x11 ≥ (x0.length : Int) then (if x2 = true then (barscanref01_Words.l1 k x0 x1 x2 x8 x9 (wrap64 ((wrap64 (2 * x10)) + 1)) (wrap64 (x11 + 1))) else (barscanref01_Words.l1 k x0 x1 x2 x8 x9 (wrap64 (2 * x10)) (wrap64 (x11 + 1)))) else (barscanref01_Words.l1 k x0 x1 x2 x8 x9 (wrap64 (2 * x10)) (wrap64 (x11 + 1))))) else (none)) else (if x11 ≥ (x0.length : Int) then (if x2 = true then (barscanref01_Words.l1 k x0 x1 x2 x8 x9 (wrap64 ((wrap64 (2 * x10)) + 1)) (wrap64 (x11 + 1))) else (barscanref01_Words.l1 k x0 x1 x2 x8 x9 (wrap64 (2 * x10)) (wrap64 (x11 + 1)))) else (barscanref01_Words.l1 k x0 x1 x2 x8 x9 (wrap64 (2 * x10)) (wrap64 (x11 + 1))))) else (if x8.length < 17592186044416 then (barscanref01_Words.l0 k x0 x1 x2 (x8 ++ [x10]) (wrap64 (x9 + x1))) else (none))
end
def barscanref01_Words.f (k : Nat) (l0 : List Bool) (a1 : Int) (a2 : Bool) : Option (List Int × Int) := if a1 < 1 then (barscanref01_Words.j0 k l0 a1 a2 true) else (barscanref01_Words.j0 k l0 a1 a2 (decide (a1 > 62)))
set_option maxHeartbeats 8000000 in
set_option maxRecDepth 100000 in
theorem barscanref01_Words.calls (k : Nat) (A0 : Option Addr) (c0 : Nat) (l0 : List Bool) (a1 : Int) (a2 : Bool) (r1 : List Int) (r2 : Int) (w : World) (hr0 : Kd.C Kd.bool w A0 l0.length l0) (hc0 : l0.length ≤ c0) (h : barscanref01_Words.f k l0 a1 a2 = some (r1, r2)) :
  Calls Try.prog 67 #[.slice A0 l0.length c0, .int .i64 a1, .bool a2] w fun e w' => ∃ v0_ : Value, e = .returned (.tuple #[v0_, .int .i64 r2]) ∧ Kd.R (Kd.int .i64) 3 w' w.heap.size (fun _ => True) v0_ r1 ∧ Below w.heap.size w w' := by
 have HR0 := Aside0.mk hr0
 have HC0 := Aside0.mk hc0
 clear hr0 hc0
 have HB := Aside0.mk (Below.refl w.heap.size w)
 have H : (if a1 < 1 then (barscanref01_Words.j0 k l0 a1 a2 true) else (barscanref01_Words.j0 k l0 a1 a2 (decide (a1 > 62)))) = some (r1, r2) := h
 clear h
 have HC4 := Aside0.mk H
 clear H
 go_enter Try.func67, Try.ntmps67
 go_upto_region 1 with (fail)
 go_cut [17] (fun v17 wc => ∃ (kq : Nat) (x17_3 : Bool), v17 = .bool x17_3 ∧ Aside0 (barscanref01_Words.j0 kq l0 a1 a2 x17_3 = some (r1, r2)) ∧ Aside0 (kq ≤ k) ∧ Aside0 (Below w.heap.size w wc))
 case first =>
  have H := HC4.out
  clear HC4
  by_cases c5 : a1 < 1
  ·rw [if_pos c5] at H
   have c5b0 : decide (a1 < 1) = true := decide_eq_true c5
   clear c5
   (first | rw [c5b0] | (simp only [i64_w, i32_w]; rw [c5b0]) | skip)
   have H' := Aside0.mk H
   clear H
   go_wp2
   go_meet
   case rel => exact ⟨_, (true), smpA, H', ⟨by first | omega | exact Nat.le_refl _⟩, ⟨belA HB.out⟩⟩
  ·rw [if_neg c5] at H
   have c5b0 : decide (a1 < 1) = false := decide_eq_false c5
   clear c5
   (first | rw [c5b0] | (simp only [i64_w, i32_w]; rw [c5b0]) | skip)
   have H' := Aside0.mk H
   clear H
   go_wp2
   go_meet
   case rel => exact ⟨_, (decide (a1 > 62)), smpA, H', ⟨by first | omega | exact Nat.le_refl _⟩, ⟨belA HB.out⟩⟩
 case rest =>
  clear HC4
  try clear p2
  try clear c5
  try clear c5b0
  obtain ⟨kq, x17_3, rfl, HA, HJ3, HB⟩ := hcut
  cases kq with
  | zero => exact absurd HA.out (by simp [barscanref01_Words.j0])
  | succ kj3 =>
   have H := HA.out
   clear HA
   simp only [barscanref01_Words.j0] at H
   by_cases c6 : x17_3 = true
   ·subst c6
    have H1 : (some (([] : List Int), 3)) = some (r1, r2) := by rw [if_pos rfl] at H; exact H
    clear H
    have H := H1
    clear H1
    simp only [Option.some.injEq, Prod.mk.injEq] at H
    obtain ⟨rfl, rfl⟩ := H
    go_wp2
    go_ret2
    exact ⟨_, errA, nilA, belA HB.out⟩
   ·replace c6 := Bool.eq_false_iff.mpr c6
    subst c6
    have H1 : (barscanref01_Words.l0 kj3 l0 a1 a2 ([] : List Int) 0) = some (r1, r2) := by rw [if_neg (show ¬ (false = true) by decide)] at H; exact H
    clear H
    have H := H1
    clear H1
    have H' := Aside0.mk H
    clear H
    go_wp2
    go_loopg [8, 9] kj3 (fun kq v8 v9 w' => ∃ (x8_2 : List Int) (x9_2 : Int), v9 = .int .i64 x9_2 ∧ Aside0 (barscanref01_Words.l0 kq l0 a1 a2 x8_2 x9_2 = some (r1, r2)) ∧ Aside0 (kq ≤ kj3) ∧ Aside0 (Kd.R (Kd.int .i64) 3 w' w.heap.size (fun _ => True) v8 x8_2) ∧ Aside0 (Below w.heap.size w w'))
    case atStart => exact ⟨(([] : List Int)), (0), smpA, H', ⟨Nat.le_refl _⟩, ⟨nilA⟩, ⟨belA HB.out⟩⟩
    case round =>
     clear H'
     try clear p2
     try clear c5
     try clear c5b0
     try clear c6
     try clear p2
     obtain ⟨x8_2, x9_2, rfl, HA, HK2, HO_8, HB⟩ := hrel
     cases gk with
     | zero => exact absurd HA.out (by simp [barscanref01_Words.l0])
     | succ k2 =>
      have H := HA.out
      clear HA
      simp only [barscanref01_Words.l0] at H
      by_cases c7 : x9_2 < (l0.length : Int)
      ·rw [if_pos c7] at H
       have c7b0 : decide (x9_2 < (l0.length : Int)) = true := decide_eq_true c7
       clear c7
       have H' := Aside0.mk H
       clear H
       go_wp2
       go_loopg [10, 11] k2 (fun kq v10 v11 w' => ∃ (x10_3 : Int) (x11_3 : Int), v10 = .int .i64 x10_3 ∧ v11 = .int .i64 x11_3 ∧ Aside0 (barscanref01_Words.l1 kq l0 a1 a2 x8_2 x9_2 x10_3 x11_3 = some (r1, r2)) ∧ Aside0 (kq ≤ k2) ∧ Aside0 (Kd.R (Kd.int .i64) 3 w' w.heap.size (fun _ => True) u8 x8_2) ∧ Aside0 (Below w.heap.size w w'))
       case atStart => exact ⟨(0), (x9_2), smpA, smpA, H', ⟨Nat.le_refl _⟩, ⟨rowA HO_8.out⟩, ⟨belA HB.out⟩⟩
       case round =>
        clear H'
        try clear p2
        try clear c5
        try clear c5b0
        try clear c6
        try clear c7
        try clear c7b0
        try clear p2
        obtain ⟨x10_3, x11_3, rfl, rfl, HA, HK3, HO_8, HB⟩ := hrel
        cases gk with
        | zero => exact absurd HA.out (by simp [barscanref01_Words.l1])
        | succ k3 =>
         have H := HA.out
         clear HA
         simp only [barscanref01_Words.l1] at H
         by_cases c8 : x11_3 < (wrap64 (x9_2 + a1))
         ·rw [if_pos c8] at H
          have c8b0 : decide (x11_3 < (wrap64 (x9_2 + a1))) = true := decide_eq_true c8
          clear c8
          by_cases c9 : x11_3 < (l0.length : Int)
          ·rw [if_pos c9] at H
           have c9b0 : decide (x11_3 < (l0.length : Int)) = true := decide_eq_true c9
           clear c9
           by_cases c10 : 0 ≤ x11_3
           ·rw [if_pos c10] at H
            have c10b0 : decide (0 ≤ x11_3) = true := decide_eq_true c10
            clear c10
            obtain ⟨bq11, hbq11⟩ : ∃ b_ : Bool, b_ = (rdOf false l0 x11_3) := ⟨_, rfl⟩
            replace H : (if bq11 = true then (barscanref01_Words.l1 k3 l0 a1 a2 x8_2 x9_2 (wrap64 ((wrap64 (2 * x10_3)) + 1)) (wrap64 (x11_3 + 1))) else (if x11_3 ≥ (l0.length : Int) then (if a2 = true then (barscanref01_Words.l1 k3 l0 a1 a2 x8_2 x9_2 (wrap64 ((wrap64 (2 * x10_3)) + 1)) (wrap64 (x11_3 + 1))) else (barscanref01_Words.l1 k3 l0 a1 a2 x8_2 x9_2 (wrap64 (2 * x10_3)) (wrap64 (x11_3 + 1)))) else (barscanref01_Words.l1 k3 l0 a1 a2 x8_2 x9_2 (wrap64 (2 * x10_3)) (wrap64 (x11_3 + 1))))) = some (r1, r2) := by rw [← hbq11] at H; exact H
            have Nbq11 := Aside0.mk hbq11
            clear hbq11
            by_cases c12 : bq11 = true
            ·subst c12
             have H1 : (barscanref01_Words.l1 k3 l0 a1 a2 x8_2 x9_2 (wrap64 ((wrap64 (2 * x10_3)) + 1)) (wrap64 (x11_3 + 1))) = some (r1, r2) := by rw [if_pos rfl] at H; exact H
             clear H
             have H := H1
             clear H1
             have H' := Aside0.mk H
             clear H
             have p263 : 0 ≤ (x11_3 : Int) := of_decide_eq_true (by first | (with_reducible assumption) | assumption)
             have q263 : x11_3 < (l0.length : Int) := of_decide_eq_true (by first | (with_reducible assumption) | assumption)
             obtain ⟨ad263, e263, hx263_0⟩ := Kd.at_bool HR0.out x11_3 p263 q263
             (try rw [← Nbq11.out] at hx263_0)
             cases e263
             replace hx263_0 := (HB.out.cell (World.block_lt_of_cell? w _ hx263_0)).trans hx263_0
             replace p263 := eq_true p263
             replace q263 := eq_true q263
             go_wp2
             go_roundg k3
             case measure => have := HJ3.out; have := HK2.out; have := HK3.out; omega
             case rel => exact ⟨(wrap64 ((wrap64 (2 * x10_3)) + 1)), (wrap64 (x11_3 + 1)), smpA, smpA, H', ⟨by have := HJ3.out; have := HK2.out; have := HK3.out; omega⟩, ⟨rowA HO_8.out⟩, ⟨belA HB.out⟩⟩
            ·replace c12 := Bool.eq_false_iff.mpr c12
             subst c12
             have H1 : (if x11_3 ≥ (l0.length : Int) then (if a2 = true then (barscanref01_Words.l1 k3 l0 a1 a2 x8_2 x9_2 (wrap64 ((wrap64 (2 * x10_3)) + 1)) (wrap64 (x11_3 + 1))) else (barscanref01_Words.l1 k3 l0 a1 a2 x8_2 x9_2 (wrap64 (2 * x10_3)) (wrap64 (x11_3 + 1)))) else (barscanref01_Words.l1 k3 l0 a1 a2 x8_2 x9_2 (wrap64 (2 * x10_3)) (wrap64 (x11_3 + 1)))) = some (r1, r2) := by rw [if_neg (show ¬ (false = true) by decide)] at H; exact H
             clear H
             have H := H1
             clear H1
             by_cases c13 : x11_3 ≥ (l0.length : Int)
             ·rw [if_pos c13] at H
              have c13b0 : decide ((l0.length : Int) ≤ x11_3) = true := decide_eq_true c13
              clear c13
              by_cases c14 : a2 = true
              ·subst c14
               have H1 : (barscanref01_Words.l1 k3 l0 a1 true x8_2 x9_2 (wrap64 ((wrap64 (2 * x10_3)) + 1)) (wrap64 (x11_3 + 1))) = some (r1, r2) := by rw [if_pos rfl] at H; exact H
               clear H
               have H := H1
               clear H1
               have H' := Aside0.mk H
               clear H
               have p263 : 0 ≤ (x11_3 : Int) := of_decide_eq_true (by first | (with_reducible assumption) | assumption)
               have q263 : x11_3 < (l0.length : Int) := of_decide_eq_true (by first | (with_reducible assumption) | assumption)
               obtain ⟨ad263, e263, hx263_0⟩ := Kd.at_bool HR0.out x11_3 p263 q263
               (try rw [← Nbq11.out] at hx263_0)
               cases e263
               replace hx263_0 := (HB.out.cell (World.block_lt_of_cell? w _ hx263_0)).trans hx263_0
               replace p263 := eq_true p263
               replace q263 := eq_true q263
               go_wp2
               go_roundg k3
               case measure => have := HJ3.out; have := HK2.out; have := HK3.out; omega
               case rel => exact ⟨(wrap64 ((wrap64 (2 * x10_3)) + 1)), (wrap64 (x11_3 + 1)), smpA, smpA, H', ⟨by have := HJ3.out; have := HK2.out; have := HK3.out; omega⟩, ⟨rowA HO_8.out⟩, ⟨belA HB.out⟩⟩
              ·replace c14 := Bool.eq_false_iff.mpr c14
               subst c14
               have H1 : (barscanref01_Words.l1 k3 l0 a1 false x8_2 x9_2 (wrap64 (2 * x10_3)) (wrap64 (x11_3 + 1))) = some (r1, r2) := by rw [if_neg (show ¬ (false = true) by decide)] at H; exact H
               clear H
               have H := H1
               clear H1
               have H' := Aside0.mk H
               clear H
               have p263 : 0 ≤ (x11_3 : Int) := of_decide_eq_true (by first | (with_reducible assumption) | assumption)
               have q263 : x11_3 < (l0.length : Int) := of_decide_eq_true (by first | (with_reducible assumption) | assumption)
               obtain ⟨ad263, e263, hx263_0⟩ := Kd.at_bool HR0.out x11_3 p263 q263
               (try rw [← Nbq11.out] at hx263_0)
               cases e263
               replace hx263_0 := (HB.out.cell (World.block_lt_of_cell? w _ hx263_0)).trans hx263_0
               replace p263 := eq_true p263
               replace q263 := eq_true q263
               go_wp2
               go_roundg k3
               case measure => have := HJ3.out; have := HK2.out; have := HK3.out; omega
               case rel => exact ⟨(wrap64 (2 * x10_3)), (wrap64 (x11_3 + 1)), smpA, smpA, H', ⟨by have := HJ3.out; have := HK2.out; have := HK3.out; omega⟩, ⟨rowA HO_8.out⟩, ⟨belA HB.out⟩⟩
             ·rw [if_neg c13] at H
              have c13b0 : decide ((l0.length : Int) ≤ x11_3) = false := decide_eq_false c13
              clear c13
              have H' := Aside0.mk H
              clear H
              have p263 : 0 ≤ (x11_3 : Int) := of_decide_eq_true (by first | (with_reducible assumption) | assumption)
              have q263 : x11_3 < (l0.length : Int) := of_decide_eq_true (by first | (with_reducible assumption) | assumption)
              obtain ⟨ad263, e263, hx263_0⟩ := Kd.at_bool HR0.out x11_3 p263 q263
              (try rw [← Nbq11.out] at hx263_0)
              cases e263
              replace hx263_0 := (HB.out.cell (World.block_lt_of_cell? w _ hx263_0)).trans hx263_0
              replace p263 := eq_true p263
              replace q263 := eq_true q263
              go_wp2
              go_roundg k3
              case measure => have := HJ3.out; have := HK2.out; have := HK3.out; omega
              case rel => exact ⟨(wrap64 (2 * x10_3)), (wrap64 (x11_3 + 1)), smpA, smpA, H', ⟨by have := HJ3.out; have := HK2.out; have := HK3.out; omega⟩, ⟨rowA HO_8.out⟩, ⟨belA HB.out⟩⟩
           ·rw [if_neg c10] at H
            exact absurd H (by simp)
          ·rw [if_neg c9] at H
           have c9b0 : decide (x11_3 < (l0.length : Int)) = false := decide_eq_false c9
           clear c9
           by_cases c15 : x11_3 ≥ (l0.length : Int)
           ·rw [if_pos c15] at H
            have c15b0 : decide ((l0.length : Int) ≤ x11_3) = true := decide_eq_true c15
            clear c15
            by_cases c16 : a2 = true
            ·subst c16
             have H1 : (barscanref01_Words.l1 k3 l0 a1 true x8_2 x9_2 (wrap64 ((wrap64 (2 * x10_3)) + 1)) (wrap64 (x11_3 + 1))) = some (r1, r2) := by rw [if_pos rfl] at H; exact H
             clear H
             have H := H1
             clear H1
             have H' := Aside0.mk H
             clear H
             go_wp2
             go_roundg k3
             case measure => have := HJ3.out; have := HK2.out; have := HK3.out; omega
             case rel => exact ⟨(wrap64 ((wrap64 (2 * x10_3)) + 1)), (wrap64 (x11_3 + 1)), smpA, smpA, H', ⟨by have := HJ3.out; have := HK2.out; have := HK3.out; omega⟩, ⟨rowA HO_8.out⟩, ⟨belA HB.out⟩⟩
            ·replace c16 := Bool.eq_false_iff.mpr c16
             subst c16
             have H1 : (barscanref01_Words.l1 k3 l0 a1 false x8_2 x9_2 (wrap64 (2 * x10_3)) (wrap64 (x11_3 + 1))) = some (r1, r2) := by rw [if_neg (show ¬ (false = true) by decide)] at H; exact H
             clear H
             have H := H1
             clear H1
             have H' := Aside0.mk H
             clear H
             go_wp2
             go_roundg k3
             case measure => have := HJ3.out; have := HK2.out; have := HK3.out; omega
             case rel => exact ⟨(wrap64 (2 * x10_3)), (wrap64 (x11_3 + 1)), smpA, smpA, H', ⟨by have := HJ3.out; have := HK2.out; have := HK3.out; omega⟩, ⟨rowA HO_8.out⟩, ⟨belA HB.out⟩⟩
           ·rw [if_neg c15] at H
            have c15b0 : decide ((l0.length : Int) ≤ x11_3) = false := decide_eq_false c15
            clear c15
            have H' := Aside0.mk H
            clear H
            go_wp2
            go_roundg k3
            case measure => have := HJ3.out; have := HK2.out; have := HK3.out; omega
            case rel => exact ⟨(wrap64 (2 * x10_3)), (wrap64 (x11_3 + 1)), smpA, smpA, H', ⟨by have := HJ3.out; have := HK2.out; have := HK3.out; omega⟩, ⟨rowA HO_8.out⟩, ⟨belA HB.out⟩⟩
         ·rw [if_neg c8] at H
          have c8b0 : decide (x11_3 < (wrap64 (x9_2 + a1))) = false := decide_eq_false c8
          clear c8
          by_cases c17 : x8_2.length < 17592186044416
          ·rw [if_pos c17] at H
           have LMc17 := Aside0.mk c17
           clear c17
           obtain ⟨y264, hy264⟩ : ∃ y_ : List Int, y_ = (x8_2 ++ [x10_3]) := ⟨_, rfl⟩
           replace H : (barscanref01_Words.l0 k3 l0 a1 a2 y264 (wrap64 (x9_2 + a1))) = some (r1, r2) := by first | (rw [hy264]; with_reducible exact H) | (have H2_ := (Option.bind_some _ _).symm.trans H; rw [hy264]; with_reducible exact H2_) | (have H2_ := (Option.bind_some _ _).symm.trans H; with_reducible exact H2_) | with_reducible exact H | (rw [hy264]; exact H) | exact H
           have Ny264 := Aside0.mk hy264
           clear hy264
           have H' := Aside0.mk H
           clear H
           go_wp2_with (first | ((with_reducible refine gate_builtin (b := .append) (xs := #[.tmp 56, .tmp 58]) rfl ?_); (try (refine gate_guard (by rfl) ?_; dsimp only)); at_builtin; refine Kd.R_append (Kd.int .i64) (w0 := w) w.heap.size rfl (.tmp 56) (.tmp 58) 60 3 (.int .i64 0) 8 rfl Try.underlying60 info3 rfl (by decide) (by omega) u8 x8_2 x10_3 [.int .i64 x10_3] (fun _ => True) (fun _ => False) rfl rfl ?aP (fun _ hk => hk.elim) ?aF ?aO ?aB ?aS ?aL ?_; (case aP => exact rfl); (case aB => exact (belA HB.out)); (case aF => exact (fun _ _ => trivial)); (case aO => exact (rowA HO_8.out)); (case aS => exact (below_size (belA HB.out))); (case aL => have := LMc17.out; omega); intro v265 w18 ho hb hg hat; rw [← Ny264.out] at ho; have n0_ := Aside0.mk (hb); have n1_ := Aside0.mk (ho); clear HB; clear HO_8; have HB := n0_; have HO266 := n1_; clear n0_ n1_; clear ho hb hg hat))
           go_roundg k3
           case measure => have := HJ3.out; have := HK2.out; have := HK3.out; omega
           case rel => exact ⟨(y264), (wrap64 (x9_2 + a1)), smpA, H', ⟨by have := HJ3.out; have := HK2.out; have := HK3.out; omega⟩, ⟨rowA HO266.out⟩, ⟨belA HB.out⟩⟩
          ·rw [if_neg c17] at H
           exact absurd H (by simp)
      ·rw [if_neg c7] at H
       have c7b0 : decide (x9_2 < (l0.length : Int)) = false := decide_eq_false c7
       clear c7
       simp only [Option.some.injEq, Prod.mk.injEq] at H
       obtain ⟨rfl, rfl⟩ := H
       go_wp2
       go_ret2
       exact ⟨_, errA, rowA HO_8.out, belA HB.out⟩

def bits_value.l0 : Nat → Int → List Bool → Int → Int → Option (Int)
 | 0, _, _, _, _ => none
 | k + 1, x3, x6, x7, x8 => if x8 < x7 then (if 0 ≤ x8 then (if x8 < (x6.length : Int) then (if rdOf false x6 x8 = true then (bits_value.l0 k (wrap64 ((wrap64 (x3 * 2)) + 1)) x6 x7 (wrap64 (x8 + 1))) else (bits_value.l0 k (wrap64 (x3 * 2)) x6 x7 (wrap64 (x8 + 1)))) else (none)) else (none)) else (some x3)
def bits_value.f (k : Nat) (l0 : List Bool) : Option (Int) := bits_value.l0 k 0 l0 (l0.length : Int) 0
set_option maxHeartbeats 8000000 in
set_option maxRecDepth 100000 in
theorem bits_value.calls (k : Nat) (A0 : Option Addr) (c0 : Nat) (l0 : List Bool) (r : Int) (w : World) (hr0 : Kd.C Kd.bool w A0 l0.length l0) (hc0 : l0.length ≤ c0) (h : bits_value.f k l0 = some r) :
  Calls Try.prog 96 #[.slice A0 l0.length c0] w fun e w' => e = .returned (.int .i64 r) ∧ Drawn0 w w' := by
 have HR0 := Aside0.mk hr0
 have HC0 := Aside0.mk hc0
 clear hr0 hc0
 have H : (bits_value.l0 k 0 l0 (l0.length : Int) 0) = some r := h
 clear h
 have H' := Aside0.mk H
 clear H
 go_enter Try.func96, Try.ntmps96
 go_wp2
 go_loopg [3, 8] k (fun kq v3 v8 w' => ∃ (x3_1 : Int) (x8_1 : Int), v3 = .int .i64 x3_1 ∧ v8 = .int .i64 x8_1 ∧ Aside0 (bits_value.l0 kq x3_1 l0 (l0.length : Int) x8_1 = some r) ∧ Aside0 (kq ≤ k) ∧ Drawn0 w w')
 case atStart => exact ⟨(0), (0), smpA, smpA, H', ⟨Nat.le_refl _⟩, by repeat (first | exact Drawn0.refl _ | apply Drawn0.step)⟩
 case round =>
  clear H'
  obtain ⟨x3_1, x8_1, rfl, rfl, HA, HK1, ⟨m1, rfl⟩⟩ := hrel
  cases gk with
  | zero => exact absurd HA.out (by simp [bits_value.l0])
  | succ k1 =>
   have H := HA.out
   clear HA
   simp only [bits_value.l0] at H
   by_cases c2 : x8_1 < (l0.length : Int)
   ·rw [if_pos c2] at H
    have c2b0 : decide (x8_1 < (l0.length : Int)) = true := decide_eq_true c2
    clear c2
    by_cases c3 : 0 ≤ x8_1
    ·rw [if_pos c3] at H
     have c3b0 : decide (0 ≤ x8_1) = true := decide_eq_true c3
     clear c3
     by_cases c4 : x8_1 < (l0.length : Int)
     ·rw [if_pos c4] at H
      have c4b0 : decide (x8_1 < (l0.length : Int)) = true := decide_eq_true c4
      clear c4
      obtain ⟨bq5, hbq5⟩ : ∃ b_ : Bool, b_ = (rdOf false l0 x8_1) := ⟨_, rfl⟩
      replace H : (if bq5 = true then (bits_value.l0 k1 (wrap64 ((wrap64 (x3_1 * 2)) + 1)) l0 (l0.length : Int) (wrap64 (x8_1 + 1))) else (bits_value.l0 k1 (wrap64 (x3_1 * 2)) l0 (l0.length : Int) (wrap64 (x8_1 + 1)))) = some r := by rw [← hbq5] at H; exact H
      have Nbq5 := Aside0.mk hbq5
      clear hbq5
      by_cases c6 : bq5 = true
      ·subst c6
       have H1 : (bits_value.l0 k1 (wrap64 ((wrap64 (x3_1 * 2)) + 1)) l0 (l0.length : Int) (wrap64 (x8_1 + 1))) = some r := by rw [if_pos rfl] at H; exact H
       clear H
       have H := H1
       clear H1
       have H' := Aside0.mk H
       clear H
       have p261 : 0 ≤ (x8_1 : Int) := of_decide_eq_true (by first | (with_reducible assumption) | assumption)
       have q261 : x8_1 < (l0.length : Int) := of_decide_eq_true (by first | (with_reducible assumption) | assumption)
       obtain ⟨ad261, e261, hx261_0⟩ := Kd.at_bool HR0.out x8_1 p261 q261
       (try rw [← Nbq5.out] at hx261_0)
       cases e261
       replace p261 := eq_true p261
       replace q261 := eq_true q261
       go_wp2
       go_roundg k1
       case measure => have := HK1.out; omega
       case rel => exact ⟨(wrap64 ((wrap64 (x3_1 * 2)) + 1)), (wrap64 (x8_1 + 1)), smpA, smpA, H', ⟨by have := HK1.out; omega⟩, by repeat (first | exact Drawn0.refl _ | apply Drawn0.step)⟩
      ·replace c6 := Bool.eq_false_iff.mpr c6
       subst c6
       have H1 : (bits_value.l0 k1 (wrap64 (x3_1 * 2)) l0 (l0.length : Int) (wrap64 (x8_1 + 1))) = some r := by rw [if_neg (show ¬ (false = true) by decide)] at H; exact H
       clear H
       have H := H1
       clear H1
       have H' := Aside0.mk H
       clear H
       have p261 : 0 ≤ (x8_1 : Int) := of_decide_eq_true (by first | (with_reducible assumption) | assumption)
       have q261 : x8_1 < (l0.length : Int) := of_decide_eq_true (by first | (with_reducible assumption) | assumption)
       obtain ⟨ad261, e261, hx261_0⟩ := Kd.at_bool HR0.out x8_1 p261 q261
       (try rw [← Nbq5.out] at hx261_0)
       cases e261
       replace p261 := eq_true p261
       replace q261 := eq_true q261
       go_wp2
       go_roundg k1
       case measure => have := HK1.out; omega
       case rel => exact ⟨(wrap64 (x3_1 * 2)), (wrap64 (x8_1 + 1)), smpA, smpA, H', ⟨by have := HK1.out; omega⟩, by repeat (first | exact Drawn0.refl _ | apply Drawn0.step)⟩
     ·rw [if_neg c4] at H
      exact absurd H (by simp)
    ·rw [if_neg c3] at H
     exact absurd H (by simp)
   ·rw [if_neg c2] at H
    have c2b0 : decide (x8_1 < (l0.length : Int)) = false := decide_eq_false c2
    clear c2
    obtain rfl := Option.some.inj H
    go_wp2
    go_ret
    exact ⟨by first | rfl | (simp; done) | (simp [*]; done), by repeat (first | exact Drawn0.refl _ | apply Drawn0.step)⟩

end Go.Proofs.Ytbbnagjfjgkgjaa.L
