-- Written by a program of this session out of the kit's print of the loaded functions (see wip/).
import Derived.Test.YtbbnagjfjgkgjaaKALx0
import Derived.Test.YtbbnagjfjgkgjaaKALx2
namespace Go.Proofs.Ytbbnagjfjgkgjaa.L
open Go.RowKit Go.Proofs.YtbbnagjfjgkgjaaW.PrintWords Go.Proofs.YtbbnagjfjgkgjaaW.PrintLast Go.Proofs.YtbbnagjfjgkgjaaW.PrintMore
attribute [local go_sem] max2_int min2_int max_two min_two max_three min_three max_four min_four   -- for this text's walks alone
set_option linter.unusedVariables false
set_option linter.unusedSimpArgs false

mutual
def qrlayout_frame_cell.j0 : Nat → Int → Int → Int → Bool → Int → Int → List Int → Option (Int)
 | 0, _, _, _, _, _, _, _ => none
 | k + 1, x1, x2, x7, x10, x127000, x127001, x127002 => if x10 = true then (some 2) else ((qrlayout_frame_align.f k x127000 x127001 x127002 x1 x2).bind fun t127 => (if t127 ≥ 0 then (some 4) else (if x1 = 6 then (qrlayout_frame_cell.j1 k x1 x2 x7 true x127000 x127001 x127002) else (qrlayout_frame_cell.j1 k x1 x2 x7 (x2 == 6) x127000 x127001 x127002))))
def qrlayout_frame_cell.j1 : Nat → Int → Int → Int → Bool → Int → Int → List Int → Option (Int)
 | 0, _, _, _, _, _, _, _ => none
 | k + 1, x1, x2, x7, x43, x127000, x127001, x127002 => if x43 = true then (some 3) else (if x1 = 8 then (qrlayout_frame_cell.j2 k x1 x2 x7 (x2 == (wrap64 (x7 - 8))) x127000 x127001 x127002) else (qrlayout_frame_cell.j2 k x1 x2 x7 false x127000 x127001 x127002))
def qrlayout_frame_cell.j2 : Nat → Int → Int → Int → Bool → Int → Int → List Int → Option (Int)
 | 0, _, _, _, _, _, _, _ => none
 | k + 1, x1, x2, x7, x50, x127000, x127001, x127002 => if x50 = true then (some 7) else (if x2 = 8 then (if x1 ≤ 8 then (qrlayout_frame_cell.j3 k x1 x2 x7 true x127000 x127001 x127002) else (if x1 ≥ (wrap64 (x7 - 8)) then (qrlayout_frame_cell.j3 k x1 x2 x7 true x127000 x127001 x127002) else (if x1 = 8 then (if x2 ≤ 8 then (qrlayout_frame_cell.j3 k x1 x2 x7 true x127000 x127001 x127002) else (qrlayout_frame_cell.j3 k x1 x2 x7 (decide (x2 ≥ (wrap64 (x7 - 7)))) x127000 x127001 x127002)) else (qrlayout_frame_cell.j3 k x1 x2 x7 false x127000 x127001 x127002)))) else (if x1 = 8 then (if x2 ≤ 8 then (qrlayout_frame_cell.j3 k x1 x2 x7 true x127000 x127001 x127002) else (qrlayout_frame_cell.j3 k x1 x2 x7 (decide (x2 ≥ (wrap64 (x7 - 7)))) x127000 x127001 x127002)) else (qrlayout_frame_cell.j3 k x1 x2 x7 false x127000 x127001 x127002)))
def qrlayout_frame_cell.j3 : Nat → Int → Int → Int → Bool → Int → Int → List Int → Option (Int)
 | 0, _, _, _, _, _, _, _ => none
 | k + 1, x1, x2, x7, x59, x127000, x127001, x127002 => if x59 = true then (some 5) else (if x127000 ≥ 7 then (if x1 ≥ (wrap64 (x7 - 11)) then (if x1 ≤ (wrap64 (x7 - 9)) then (if x2 ≤ 5 then (some 6) else (if x2 ≥ (wrap64 (x7 - 11)) then (if x2 ≤ (wrap64 (x7 - 9)) then (if x1 ≤ 5 then (some 6) else (some 1)) else (some 1)) else (some 1))) else (if x2 ≥ (wrap64 (x7 - 11)) then (if x2 ≤ (wrap64 (x7 - 9)) then (if x1 ≤ 5 then (some 6) else (some 1)) else (some 1)) else (some 1))) else (if x2 ≥ (wrap64 (x7 - 11)) then (if x2 ≤ (wrap64 (x7 - 9)) then (if x1 ≤ 5 then (some 6) else (some 1)) else (some 1)) else (some 1))) else (some 1))
end
def qrlayout_frame_cell.f (k : Nat) (a0_0 : Int) (a0_1 : Int) (l0_2 : List Int) (a1 : Int) (a2 : Int) : Option (Int) := if a1 < 8 then (if a2 < 8 then (qrlayout_frame_cell.j0 k a1 a2 a0_1 true a0_0 a0_1 l0_2) else (if a1 ≥ (wrap64 (a0_1 - 8)) then (qrlayout_frame_cell.j0 k a1 a2 a0_1 (decide (a2 ≥ (wrap64 (a0_1 - 8)))) a0_0 a0_1 l0_2) else (qrlayout_frame_cell.j0 k a1 a2 a0_1 (decide (a2 ≥ (wrap64 (a0_1 - 8)))) a0_0 a0_1 l0_2))) else (if a1 ≥ (wrap64 (a0_1 - 8)) then (if a2 < 8 then (qrlayout_frame_cell.j0 k a1 a2 a0_1 true a0_0 a0_1 l0_2) else (qrlayout_frame_cell.j0 k a1 a2 a0_1 false a0_0 a0_1 l0_2)) else (qrlayout_frame_cell.j0 k a1 a2 a0_1 false a0_0 a0_1 l0_2))
set_option maxHeartbeats 8000000 in
set_option maxRecDepth 100000 in
theorem qrlayout_frame_cell.calls (k : Nat) (a0_0 : Int) (a0_1 : Int) (A0_2 : Option Addr) (c0_2 : Nat) (l0_2 : List Int) (a1 : Int) (a2 : Int) (r : Int) (w : World) (hr0_2 : Kd.C (Kd.int .i64) w A0_2 l0_2.length l0_2) (hc0_2 : l0_2.length ≤ c0_2) (h : qrlayout_frame_cell.f k a0_0 a0_1 l0_2 a1 a2 = some r) :
  Calls Try.prog 41 #[.agg #[.int .i64 a0_0, .int .i64 a0_1, .slice A0_2 l0_2.length c0_2], .int .i64 a1, .int .i64 a2] w fun e w' => e = .returned (.int .i64 r) ∧ Below w.heap.size w w' := by
 have hu69 := Try.underlying69
 have HR0_2 := Aside0.mk hr0_2
 have HC0_2 := Aside0.mk hc0_2
 clear hr0_2 hc0_2
 have HB := Aside0.mk (Below.refl w.heap.size w)
 have H : (if a1 < 8 then (if a2 < 8 then (qrlayout_frame_cell.j0 k a1 a2 a0_1 true a0_0 a0_1 l0_2) else (if a1 ≥ (wrap64 (a0_1 - 8)) then (qrlayout_frame_cell.j0 k a1 a2 a0_1 (decide (a2 ≥ (wrap64 (a0_1 - 8)))) a0_0 a0_1 l0_2) else (qrlayout_frame_cell.j0 k a1 a2 a0_1 (decide (a2 ≥ (wrap64 (a0_1 - 8)))) a0_0 a0_1 l0_2))) else (if a1 ≥ (wrap64 (a0_1 - 8)) then (if a2 < 8 then (qrlayout_frame_cell.j0 k a1 a2 a0_1 true a0_0 a0_1 l0_2) else (qrlayout_frame_cell.j0 k a1 a2 a0_1 false a0_0 a0_1 l0_2)) else (qrlayout_frame_cell.j0 k a1 a2 a0_1 false a0_0 a0_1 l0_2))) = some r := h
 clear h
 have HC4 := Aside0.mk H
 clear H
 go_enter Try.func41, Try.ntmps41
 go_upto_region 2 with (first | ((with_reducible refine gate_dst (N := 3) rfl ?_); refine boxE (N := 3) (cs := #[.int .i64 a0_0, .int .i64 a0_1, .slice A0_2 l0_2.length c0_2]) (t := 69) ?_; intro gb126 hg w5 hbox hb; have BK126 := Aside0.mk (hbox); have GW126 := Aside0.mk ((szA hg HB.out : w.heap.size ≤ gb126)); have GE126 := Aside0.mk ((szA hg HB.out : w.heap.size ≤ gb126)); replace HB := Aside0.mk (below_step (belA HB.out) hb); clear hb hbox hg; obtain ⟨hcz6_0, hcz6_1, hcz6_2, hfz6_0, hfz6_1, hfz6_2⟩ := bk3 BK126.out))
 (try simp only [Act.put, List.setIfInBounds_toArray, List.set_cons_zero, List.set_cons_succ])
 go_cut [10] (fun v10 wc => ∃ (kq : Nat) (x10_3 : Bool), v10 = .bool x10_3 ∧ Aside0 (qrlayout_frame_cell.j0 kq a1 a2 a0_1 x10_3 a0_0 a0_1 l0_2 = some r) ∧ Aside0 (kq ≤ k) ∧ Aside0 (wc.heap[gb126]? = some (.cells #[.int .i64 a0_0, .int .i64 a0_1, (.slice A0_2 l0_2.length c0_2)] 69 (0, 0))) ∧ Aside0 (Below w.heap.size w wc))
 case first =>
  have H := HC4.out
  clear HC4
  by_cases c7 : a1 < 8
  ·rw [if_pos c7] at H
   have c7b0 : decide (a1 < 8) = true := decide_eq_true c7
   clear c7
   (first | rw [c7b0] | (simp only [i64_w, i32_w]; rw [c7b0]) | skip)
   by_cases c8 : a2 < 8
   ·rw [if_pos c8] at H
    have c8b0 : decide (a2 < 8) = true := decide_eq_true c8
    clear c8
    have H' := Aside0.mk H
    clear H
    go_wp2
    go_meet
    case rel => exact ⟨_, (true), smpA, H', ⟨by first | omega | exact Nat.le_refl _⟩, ⟨blkA BK126.out⟩, ⟨belA HB.out⟩⟩
   ·rw [if_neg c8] at H
    have c8b0 : decide (a2 < 8) = false := decide_eq_false c8
    clear c8
    by_cases c9 : a1 ≥ (wrap64 (a0_1 - 8))
    ·rw [if_pos c9] at H
     have c9b0 : decide ((wrap64 (a0_1 - 8)) ≤ a1) = true := decide_eq_true c9
     clear c9
     have H' := Aside0.mk H
     clear H
     go_wp2
     go_meet
     case rel => exact ⟨_, (decide (a2 ≥ (wrap64 (a0_1 - 8)))), smpA, H', ⟨by first | omega | exact Nat.le_refl _⟩, ⟨blkA BK126.out⟩, ⟨belA HB.out⟩⟩
    ·rw [if_neg c9] at H
     have c9b0 : decide ((wrap64 (a0_1 - 8)) ≤ a1) = false := decide_eq_false c9
     clear c9
     have H' := Aside0.mk H
     clear H
     go_wp2
     go_meet
     case rel => exact ⟨_, (decide (a2 ≥ (wrap64 (a0_1 - 8)))), smpA, H', ⟨by first | omega | exact Nat.le_refl _⟩, ⟨blkA BK126.out⟩, ⟨belA HB.out⟩⟩
  ·rw [if_neg c7] at H
   have c7b0 : decide (a1 < 8) = false := decide_eq_false c7
   clear c7
   (first | rw [c7b0] | (simp only [i64_w, i32_w]; rw [c7b0]) | skip)
   by_cases c10 : a1 ≥ (wrap64 (a0_1 - 8))
   ·rw [if_pos c10] at H
    have c10b0 : decide ((wrap64 (a0_1 - 8)) ≤ a1) = true := decide_eq_true c10
    clear c10
    by_cases c11 : a2 < 8
    ·rw [if_pos c11] at H
     have c11b0 : decide (a2 < 8) = true := decide_eq_true c11
     clear c11
     have H' := Aside0.mk H
     clear H
     go_wp2
     go_meet
     case rel => exact ⟨_, (true), smpA, H', ⟨by first | omega | exact Nat.le_refl _⟩, ⟨blkA BK126.out⟩, ⟨belA HB.out⟩⟩
    ·rw [if_neg c11] at H
     have c11b0 : decide (a2 < 8) = false := decide_eq_false c11
     clear c11
     have H' := Aside0.mk H
     clear H
     go_wp2
     go_meet
     case rel => exact ⟨_, (false), smpA, H', ⟨by first | omega | exact Nat.le_refl _⟩, ⟨blkA BK126.out⟩, ⟨belA HB.out⟩⟩
   ·rw [if_neg c10] at H
    have c10b0 : decide ((wrap64 (a0_1 - 8)) ≤ a1) = false := decide_eq_false c10
    clear c10
    have H' := Aside0.mk H
    clear H
    go_wp2
    go_meet
    case rel => exact ⟨_, (false), smpA, H', ⟨by first | omega | exact Nat.le_refl _⟩, ⟨blkA BK126.out⟩, ⟨belA HB.out⟩⟩
 case rest =>
  clear HC4
  try clear c1
  try clear p2
  try clear c4
  try clear p6
  try clear c7
  try clear c7b0
  try clear c8
  try clear c8b0
  try clear c9
  try clear c9b0
  try clear c10
  try clear c10b0
  try clear c11
  try clear c11b0
  try clear hcz6_0
  try clear hcz6_1
  try clear hcz6_2
  try clear hfz6_0
  try clear hfz6_1
  try clear hfz6_2
  obtain ⟨kq, x10_3, rfl, HA, HJ3, BK126, HB⟩ := hcut
  cases kq with
  | zero => exact absurd HA.out (by simp [qrlayout_frame_cell.j0])
  | succ kj3 =>
   have H := HA.out
   clear HA
   simp only [qrlayout_frame_cell.j0] at H
   by_cases c12 : x10_3 = true
   ·subst c12
    have H1 : (some 2) = some r := by rw [if_pos rfl] at H; exact H
    clear H
    have H := H1
    clear H1
    obtain rfl := Option.some.inj H
    go_wp2
    go_ret
    exact ⟨errA, belA HB.out⟩
   ·replace c12 := Bool.eq_false_iff.mpr c12
    subst c12
    have H1 : ((qrlayout_frame_align.f kj3 a0_0 a0_1 l0_2 a1 a2).bind fun t127 => (if t127 ≥ 0 then (some 4) else (if a1 = 6 then (qrlayout_frame_cell.j1 kj3 a1 a2 a0_1 true a0_0 a0_1 l0_2) else (qrlayout_frame_cell.j1 kj3 a1 a2 a0_1 (a2 == 6) a0_0 a0_1 l0_2)))) = some r := by rw [if_neg (show ¬ (false = true) by decide)] at H; exact H
    clear H
    have H := H1
    clear H1
    replace H := Option.bind_eq_some_iff.mp H
    obtain ⟨t127, A130, H⟩ := H
    replace H : (if t127 ≥ 0 then (some 4) else (if a1 = 6 then (qrlayout_frame_cell.j1 kj3 a1 a2 a0_1 true a0_0 a0_1 l0_2) else (qrlayout_frame_cell.j1 kj3 a1 a2 a0_1 (a2 == 6) a0_0 a0_1 l0_2))) = some r := H
    have A13 := Aside0.mk A130
    clear A130
    by_cases c14 : t127 ≥ 0
    ·rw [if_pos c14] at H
     have c14b0 : decide (0 ≤ t127) = true := decide_eq_true c14
     clear c14
     obtain rfl := Option.some.inj H
     obtain ⟨hcz15_0, hcz15_1, hcz15_2, hfz15_0, hfz15_1, hfz15_2⟩ := bk3 BK126.out
     go_wp2_with (first | ((with_reducible refine gate_callee (f := 74) rfl ?_); refine goesL_ (some 41) rfl rfl Try.func74 (by kernel_rfl) rfl #[.agg #[.int .i64 a0_0, .int .i64 a0_1, .slice A0_2 l0_2.length c0_2], .int .i64 a1, .int .i64 a2] rfl argA ?_; (with_reducible refine (qrlayout_frame_align.calls kj3 a0_0 a0_1 _ _ l0_2 a1 a2 t127 _ ?side1 ?side2 A13.out).mono ?_); (case side1 => exact lowA (Kd.C_below HR0_2.out HB.out)); (case side2 => exact HC0_2.out); rintro e w16 ⟨rfl, hb⟩; refine ⟨_, rfl, ?_⟩; replace BK126 := Aside0.mk (blk_below (g := gb126) (o := .cells #[.int .i64 a0_0, .int .i64 a0_1, .slice A0_2 l0_2.length c0_2] 69 (0, 0)) (blkA BK126.out) hb); replace HB := Aside0.mk (below_step (belA HB.out) hb); (try clear hb); (try clear hb2); (try clear hk); (try clear hi)))
     go_ret
     exact ⟨errA, belA HB.out⟩
    ·rw [if_neg c14] at H
     have c14b0 : decide (0 ≤ t127) = false := decide_eq_false c14
     clear c14
     have HC17 := Aside0.mk H
     clear H
     obtain ⟨hcz18_0, hcz18_1, hcz18_2, hfz18_0, hfz18_1, hfz18_2⟩ := bk3 BK126.out
     go_upto_region 6 with (first | ((with_reducible refine gate_callee (f := 74) rfl ?_); refine goesL_ (some 41) rfl rfl Try.func74 (by kernel_rfl) rfl #[.agg #[.int .i64 a0_0, .int .i64 a0_1, .slice A0_2 l0_2.length c0_2], .int .i64 a1, .int .i64 a2] rfl argA ?_; (with_reducible refine (qrlayout_frame_align.calls kj3 a0_0 a0_1 _ _ l0_2 a1 a2 t127 _ ?side1 ?side2 A13.out).mono ?_); (case side1 => exact lowA (Kd.C_below HR0_2.out HB.out)); (case side2 => exact HC0_2.out); rintro e w19 ⟨rfl, hb⟩; refine ⟨_, rfl, ?_⟩; replace BK126 := Aside0.mk (blk_below (g := gb126) (o := .cells #[.int .i64 a0_0, .int .i64 a0_1, .slice A0_2 l0_2.length c0_2] 69 (0, 0)) (blkA BK126.out) hb); replace HB := Aside0.mk (below_step (belA HB.out) hb); (try clear hb); (try clear hb2); (try clear hk); (try clear hi)))
     (try simp only [Act.put, List.setIfInBounds_toArray, List.set_cons_zero, List.set_cons_succ])
     go_cut [43] (fun v43 wc => ∃ (kq : Nat) (x43_16 : Bool), v43 = .bool x43_16 ∧ Aside0 (qrlayout_frame_cell.j1 kq a1 a2 a0_1 x43_16 a0_0 a0_1 l0_2 = some r) ∧ Aside0 (kq ≤ kj3) ∧ Aside0 (wc.heap[gb126]? = some (.cells #[.int .i64 a0_0, .int .i64 a0_1, (.slice A0_2 l0_2.length c0_2)] 69 (0, 0))) ∧ Aside0 (Below w.heap.size w wc))
     case first =>
      have H := HC17.out
      clear HC17
      by_cases c20 : a1 = 6
      ·rw [if_pos c20] at H
       have c20b0 : (a1 == 6) = true := beq_iff_eq.mpr c20
       have c20b1 : (a1 != 6) = false := bne_eq_false_iff_eq.mpr c20
       clear c20
       (first | rw [c20b0] | (simp only [i64_w, i32_w]; rw [c20b0]) | skip)
       have H' := Aside0.mk H
       clear H
       go_wp2
       go_meet
       case rel => exact ⟨_, (true), smpA, H', ⟨by have := HJ3.out; first | omega | exact Nat.le_refl _⟩, ⟨blkA BK126.out⟩, ⟨belA HB.out⟩⟩
      ·rw [if_neg c20] at H
       have c20b0 : (a1 == 6) = false := beq_eq_false_iff_ne.mpr c20
       have c20b1 : (a1 != 6) = true := bne_iff_ne.mpr c20
       (first | rw [c20b0] | (simp only [i64_w, i32_w]; rw [c20b0]) | skip)
       have H' := Aside0.mk H
       clear H
       go_wp2
       go_meet
       case rel => exact ⟨_, ((a2 == 6)), smpA, H', ⟨by have := HJ3.out; first | omega | exact Nat.le_refl _⟩, ⟨blkA BK126.out⟩, ⟨belA HB.out⟩⟩
     case rest =>
      clear HC17
      try clear c1
      try clear c2
      try clear p2
      try clear c4
      try clear p6
      try clear c7
      try clear c7b0
      try clear c8
      try clear c8b0
      try clear c9
      try clear c9b0
      try clear c10
      try clear c10b0
      try clear c11
      try clear c11b0
      try clear c12
      try clear c14
      try clear c14b0
      try clear c20
      try clear c20b0
      try clear c20b1
      try clear hcz15_0
      try clear hcz15_1
      try clear hcz15_2
      try clear hcz18_0
      try clear hcz18_1
      try clear hcz18_2
      try clear hcz6_0
      try clear hcz6_1
      try clear hcz6_2
      try clear hfz15_0
      try clear hfz15_1
      try clear hfz15_2
      try clear hfz18_0
      try clear hfz18_1
      try clear hfz18_2
      try clear hfz6_0
      try clear hfz6_1
      try clear hfz6_2
      try clear p2
      try clear p6
      obtain ⟨kq, x43_16, rfl, HA, HJ16, BK126, HB⟩ := hcut
      cases kq with
      | zero => exact absurd HA.out (by simp [qrlayout_frame_cell.j1])
      | succ kj16 =>
       have H := HA.out
       clear HA
       simp only [qrlayout_frame_cell.j1] at H
       by_cases c21 : x43_16 = true
       ·subst c21
        have H1 : (some 3) = some r := by rw [if_pos rfl] at H; exact H
        clear H
        have H := H1
        clear H1
        obtain rfl := Option.some.inj H
        go_wp2
        go_ret
        exact ⟨errA, belA HB.out⟩
       ·replace c21 := Bool.eq_false_iff.mpr c21
        subst c21
        have H1 : (if a1 = 8 then (qrlayout_frame_cell.j2 kj16 a1 a2 a0_1 (a2 == (wrap64 (a0_1 - 8))) a0_0 a0_1 l0_2) else (qrlayout_frame_cell.j2 kj16 a1 a2 a0_1 false a0_0 a0_1 l0_2)) = some r := by rw [if_neg (show ¬ (false = true) by decide)] at H; exact H
        clear H
        have H := H1
        clear H1
        have HC22 := Aside0.mk H
        clear H
        go_upto_region 8 with (fail)
        go_cut [50] (fun v50 wc => ∃ (kq : Nat) (x50_21 : Bool), v50 = .bool x50_21 ∧ Aside0 (qrlayout_frame_cell.j2 kq a1 a2 a0_1 x50_21 a0_0 a0_1 l0_2 = some r) ∧ Aside0 (kq ≤ kj16) ∧ Aside0 (wc.heap[gb126]? = some (.cells #[.int .i64 a0_0, .int .i64 a0_1, (.slice A0_2 l0_2.length c0_2)] 69 (0, 0))) ∧ Aside0 (Below w.heap.size w wc))
        case first =>
         have H := HC22.out
         clear HC22
         by_cases c23 : a1 = 8
         ·rw [if_pos c23] at H
          have c23b0 : (a1 == 8) = true := beq_iff_eq.mpr c23
          have c23b1 : (a1 != 8) = false := bne_eq_false_iff_eq.mpr c23
          clear c23
          (first | rw [c23b0] | (simp only [i64_w, i32_w]; rw [c23b0]) | skip)
          have H' := Aside0.mk H
          clear H
          go_wp2
          go_meet
          case rel => exact ⟨_, ((a2 == (wrap64 (a0_1 - 8)))), smpA, H', ⟨by have := HJ3.out; have := HJ16.out; first | omega | exact Nat.le_refl _⟩, ⟨blkA BK126.out⟩, ⟨belA HB.out⟩⟩
         ·rw [if_neg c23] at H
          have c23b0 : (a1 == 8) = false := beq_eq_false_iff_ne.mpr c23
          have c23b1 : (a1 != 8) = true := bne_iff_ne.mpr c23
          (first | rw [c23b0] | (simp only [i64_w, i32_w]; rw [c23b0]) | skip)
          have H' := Aside0.mk H
          clear H
          go_wp2
          go_meet
          case rel => exact ⟨_, (false), smpA, H', ⟨by have := HJ3.out; have := HJ16.out; first | omega | exact Nat.le_refl _⟩, ⟨blkA BK126.out⟩, ⟨belA HB.out⟩⟩
        case rest =>
         clear HC22
         try clear c1
         try clear c2
         try clear p2
         try clear c4
         try clear p6
         try clear c7
         try clear c7b0
         try clear c8
         try clear c8b0
         try clear c9
         try clear c9b0
         try clear c10
         try clear c10b0
         try clear c11
         try clear c11b0
         try clear c12
         try clear c14
         try clear c14b0
         try clear c20
         try clear c20b0
         try clear c20b1
         try clear c21
         try clear c23
         try clear c23b0
         try clear c23b1
         try clear hcz15_0
         try clear hcz15_1
         try clear hcz15_2
         try clear hcz18_0
         try clear hcz18_1
         try clear hcz18_2
         try clear hcz6_0
         try clear hcz6_1
         try clear hcz6_2
         try clear hfz15_0
         try clear hfz15_1
         try clear hfz15_2
         try clear hfz18_0
         try clear hfz18_1
         try clear hfz18_2
         try clear hfz6_0
         try clear hfz6_1
         try clear hfz6_2
         try clear p2
         try clear p6
         obtain ⟨kq, x50_21, rfl, HA, HJ21, BK126, HB⟩ := hcut
         cases kq with
         | zero => exact absurd HA.out (by simp [qrlayout_frame_cell.j2])
         | succ kj21 =>
          have H := HA.out
          clear HA
          simp only [qrlayout_frame_cell.j2] at H
          by_cases c24 : x50_21 = true
          ·subst c24
           have H1 : (some 7) = some r := by rw [if_pos rfl] at H; exact H
           clear H
           have H := H1
           clear H1
           obtain rfl := Option.some.inj H
           go_wp2
           go_ret
           exact ⟨errA, belA HB.out⟩
          ·replace c24 := Bool.eq_false_iff.mpr c24
           subst c24
           have H1 : (if a2 = 8 then (if a1 ≤ 8 then (qrlayout_frame_cell.j3 kj21 a1 a2 a0_1 true a0_0 a0_1 l0_2) else (if a1 ≥ (wrap64 (a0_1 - 8)) then (qrlayout_frame_cell.j3 kj21 a1 a2 a0_1 true a0_0 a0_1 l0_2) else (if a1 = 8 then (if a2 ≤ 8 then (qrlayout_frame_cell.j3 kj21 a1 a2 a0_1 true a0_0 a0_1 l0_2) else (qrlayout_frame_cell.j3 kj21 a1 a2 a0_1 (decide (a2 ≥ (wrap64 (a0_1 - 7)))) a0_0 a0_1 l0_2)) else (qrlayout_frame_cell.j3 kj21 a1 a2 a0_1 false a0_0 a0_1 l0_2)))) else (if a1 = 8 then (if a2 ≤ 8 then (qrlayout_frame_cell.j3 kj21 a1 a2 a0_1 true a0_0 a0_1 l0_2) else (qrlayout_frame_cell.j3 kj21 a1 a2 a0_1 (decide (a2 ≥ (wrap64 (a0_1 - 7)))) a0_0 a0_1 l0_2)) else (qrlayout_frame_cell.j3 kj21 a1 a2 a0_1 false a0_0 a0_1 l0_2))) = some r := by rw [if_neg (show ¬ (false = true) by decide)] at H; exact H
           clear H
           have H := H1
           clear H1
           have HC25 := Aside0.mk H
           clear H
           go_upto_region 10 with (fail)
           go_cut [59] (fun v59 wc => ∃ (kq : Nat) (x59_24 : Bool), v59 = .bool x59_24 ∧ Aside0 (qrlayout_frame_cell.j3 kq a1 a2 a0_1 x59_24 a0_0 a0_1 l0_2 = some r) ∧ Aside0 (kq ≤ kj21) ∧ Aside0 (wc.heap[gb126]? = some (.cells #[.int .i64 a0_0, .int .i64 a0_1, (.slice A0_2 l0_2.length c0_2)] 69 (0, 0))) ∧ Aside0 (Below w.heap.size w wc))
           case first =>
            have H := HC25.out
            clear HC25
            by_cases c26 : a2 = 8
            ·rw [if_pos c26] at H
             have c26b0 : (a2 == 8) = true := beq_iff_eq.mpr c26
             have c26b1 : (a2 != 8) = false := bne_eq_false_iff_eq.mpr c26
             clear c26
             (first | rw [c26b0] | (simp only [i64_w, i32_w]; rw [c26b0]) | skip)
             by_cases c27 : a1 ≤ 8
             ·rw [if_pos c27] at H
              have c27b0 : decide (a1 ≤ 8) = true := decide_eq_true c27
              clear c27
              have H' := Aside0.mk H
              clear H
              go_wp2
              go_meet
              case rel => exact ⟨_, (true), smpA, H', ⟨by have := HJ3.out; have := HJ16.out; have := HJ21.out; first | omega | exact Nat.le_refl _⟩, ⟨blkA BK126.out⟩, ⟨belA HB.out⟩⟩
             ·rw [if_neg c27] at H
              have c27b0 : decide (a1 ≤ 8) = false := decide_eq_false c27
              clear c27
              by_cases c28 : a1 ≥ (wrap64 (a0_1 - 8))
              ·rw [if_pos c28] at H
               have c28b0 : decide ((wrap64 (a0_1 - 8)) ≤ a1) = true := decide_eq_true c28
               clear c28
               have H' := Aside0.mk H
               clear H
               go_wp2
               go_meet
               case rel => exact ⟨_, (true), smpA, H', ⟨by have := HJ3.out; have := HJ16.out; have := HJ21.out; first | omega | exact Nat.le_refl _⟩, ⟨blkA BK126.out⟩, ⟨belA HB.out⟩⟩
              ·rw [if_neg c28] at H
               have c28b0 : decide ((wrap64 (a0_1 - 8)) ≤ a1) = false := decide_eq_false c28
               clear c28
               by_cases c29 : a1 = 8
               ·rw [if_pos c29] at H
                have c29b0 : (a1 == 8) = true := beq_iff_eq.mpr c29
                have c29b1 : (a1 != 8) = false := bne_eq_false_iff_eq.mpr c29
                clear c29
                by_cases c30 : a2 ≤ 8
                ·rw [if_pos c30] at H
                 have c30b0 : decide (a2 ≤ 8) = true := decide_eq_true c30
                 clear c30
                 have H' := Aside0.mk H
                 clear H
                 go_wp2
                 go_meet
                 case rel => exact ⟨_, (true), smpA, H', ⟨by have := HJ3.out; have := HJ16.out; have := HJ21.out; first | omega | exact Nat.le_refl _⟩, ⟨blkA BK126.out⟩, ⟨belA HB.out⟩⟩
                ·rw [if_neg c30] at H
                 have c30b0 : decide (a2 ≤ 8) = false := decide_eq_false c30
                 clear c30
                 have H' := Aside0.mk H
                 clear H
                 go_wp2
                 go_meet
                 case rel => exact ⟨_, (decide (a2 ≥ (wrap64 (a0_1 - 7)))), smpA, H', ⟨by have := HJ3.out; have := HJ16.out; have := HJ21.out; first | omega | exact Nat.le_refl _⟩, ⟨blkA BK126.out⟩, ⟨belA HB.out⟩⟩
               ·rw [if_neg c29] at H
                have c29b0 : (a1 == 8) = false := beq_eq_false_iff_ne.mpr c29
                have c29b1 : (a1 != 8) = true := bne_iff_ne.mpr c29
                have H' := Aside0.mk H
                clear H
                go_wp2
                go_meet
                case rel => exact ⟨_, (false), smpA, H', ⟨by have := HJ3.out; have := HJ16.out; have := HJ21.out; first | omega | exact Nat.le_refl _⟩, ⟨blkA BK126.out⟩, ⟨belA HB.out⟩⟩
            ·rw [if_neg c26] at H
             have c26b0 : (a2 == 8) = false := beq_eq_false_iff_ne.mpr c26
             have c26b1 : (a2 != 8) = true := bne_iff_ne.mpr c26
             (first | rw [c26b0] | (simp only [i64_w, i32_w]; rw [c26b0]) | skip)
             by_cases c31 : a1 = 8
             ·rw [if_pos c31] at H
              have c31b0 : (a1 == 8) = true := beq_iff_eq.mpr c31
              have c31b1 : (a1 != 8) = false := bne_eq_false_iff_eq.mpr c31
              clear c31
              by_cases c32 : a2 ≤ 8
              ·rw [if_pos c32] at H
               have c32b0 : decide (a2 ≤ 8) = true := decide_eq_true c32
               clear c32
               have H' := Aside0.mk H
               clear H
               go_wp2
               go_meet
               case rel => exact ⟨_, (true), smpA, H', ⟨by have := HJ3.out; have := HJ16.out; have := HJ21.out; first | omega | exact Nat.le_refl _⟩, ⟨blkA BK126.out⟩, ⟨belA HB.out⟩⟩
              ·rw [if_neg c32] at H
               have c32b0 : decide (a2 ≤ 8) = false := decide_eq_false c32
               clear c32
               have H' := Aside0.mk H
               clear H
               go_wp2
               go_meet
               case rel => exact ⟨_, (decide (a2 ≥ (wrap64 (a0_1 - 7)))), smpA, H', ⟨by have := HJ3.out; have := HJ16.out; have := HJ21.out; first | omega | exact Nat.le_refl _⟩, ⟨blkA BK126.out⟩, ⟨belA HB.out⟩⟩
             ·rw [if_neg c31] at H
              have c31b0 : (a1 == 8) = false := beq_eq_false_iff_ne.mpr c31
              have c31b1 : (a1 != 8) = true := bne_iff_ne.mpr c31
              have H' := Aside0.mk H
              clear H
              go_wp2
              go_meet
              case rel => exact ⟨_, (false), smpA, H', ⟨by have := HJ3.out; have := HJ16.out; have := HJ21.out; first | omega | exact Nat.le_refl _⟩, ⟨blkA BK126.out⟩, ⟨belA HB.out⟩⟩
           case rest =>
            clear HC25
            try clear c1
            try clear c2
            try clear p2
            try clear c3
            try clear c4
            try clear p6
            try clear c7
            try clear c7b0
            try clear c8
            try clear c8b0
            try clear c9
            try clear c9b0
            try clear c10
            try clear c10b0
            try clear c11
            try clear c11b0
            try clear c12
            try clear c14
            try clear c14b0
            try clear c20
            try clear c20b0
            try clear c20b1
            try clear c21
            try clear c23
            try clear c23b0
            try clear c23b1
            try clear c24
            try clear c26
            try clear c26b0
            try clear c26b1
            try clear c27
            try clear c27b0
            try clear c28
            try clear c28b0
            try clear c29
            try clear c29b0
            try clear c29b1
            try clear c30
            try clear c30b0
            try clear c31
            try clear c31b0
            try clear c31b1
            try clear c32
            try clear c32b0
            try clear hcz15_0
            try clear hcz15_1
            try clear hcz15_2
            try clear hcz18_0
            try clear hcz18_1
            try clear hcz18_2
            try clear hcz6_0
            try clear hcz6_1
            try clear hcz6_2
            try clear hfz15_0
            try clear hfz15_1
            try clear hfz15_2
            try clear hfz18_0
            try clear hfz18_1
            try clear hfz18_2
            try clear hfz6_0
            try clear hfz6_1
            try clear hfz6_2
            try clear p2
            try clear p6
            obtain ⟨kq, x59_24, rfl, HA, HJ24, BK126, HB⟩ := hcut
            cases kq with
            | zero => exact absurd HA.out (by simp [qrlayout_frame_cell.j3])
            | succ kj24 =>
             have H := HA.out
             clear HA
             simp only [qrlayout_frame_cell.j3] at H
             by_cases c33 : x59_24 = true
             ·subst c33
              have H1 : (some 5) = some r := by rw [if_pos rfl] at H; exact H
              clear H
              have H := H1
              clear H1
              obtain rfl := Option.some.inj H
              go_wp2
              go_ret
              exact ⟨errA, belA HB.out⟩
             ·replace c33 := Bool.eq_false_iff.mpr c33
              subst c33
              have H1 : (if a0_0 ≥ 7 then (if a1 ≥ (wrap64 (a0_1 - 11)) then (if a1 ≤ (wrap64 (a0_1 - 9)) then (if a2 ≤ 5 then (some 6) else (if a2 ≥ (wrap64 (a0_1 - 11)) then (if a2 ≤ (wrap64 (a0_1 - 9)) then (if a1 ≤ 5 then (some 6) else (some 1)) else (some 1)) else (some 1))) else (if a2 ≥ (wrap64 (a0_1 - 11)) then (if a2 ≤ (wrap64 (a0_1 - 9)) then (if a1 ≤ 5 then (some 6) else (some 1)) else (some 1)) else (some 1))) else (if a2 ≥ (wrap64 (a0_1 - 11)) then (if a2 ≤ (wrap64 (a0_1 - 9)) then (if a1 ≤ 5 then (some 6) else (some 1)) else (some 1)) else (some 1))) else (some 1)) = some r := by rw [if_neg (show ¬ (false = true) by decide)] at H; exact H
              clear H
              have H := H1
              clear H1
              by_cases c34 : a0_0 ≥ 7
              ·rw [if_pos c34] at H
               have c34b0 : decide (7 ≤ a0_0) = true := decide_eq_true c34
               clear c34
               by_cases c35 : a1 ≥ (wrap64 (a0_1 - 11))
               ·rw [if_pos c35] at H
                have c35b0 : decide ((wrap64 (a0_1 - 11)) ≤ a1) = true := decide_eq_true c35
                clear c35
                by_cases c36 : a1 ≤ (wrap64 (a0_1 - 9))
                ·rw [if_pos c36] at H
                 have c36b0 : decide (a1 ≤ (wrap64 (a0_1 - 9))) = true := decide_eq_true c36
                 clear c36
                 by_cases c37 : a2 ≤ 5
                 ·rw [if_pos c37] at H
                  have c37b0 : decide (a2 ≤ 5) = true := decide_eq_true c37
                  clear c37
                  obtain rfl := Option.some.inj H
                  obtain ⟨hcz38_0, hcz38_1, hcz38_2, hfz38_0, hfz38_1, hfz38_2⟩ := bk3 BK126.out
                  go_wp2
                  go_ret
                  exact ⟨errA, belA HB.out⟩
                 ·rw [if_neg c37] at H
                  have c37b0 : decide (a2 ≤ 5) = false := decide_eq_false c37
                  clear c37
                  by_cases c39 : a2 ≥ (wrap64 (a0_1 - 11))
                  ·rw [if_pos c39] at H
                   have c39b0 : decide ((wrap64 (a0_1 - 11)) ≤ a2) = true := decide_eq_true c39
                   clear c39
                   by_cases c40 : a2 ≤ (wrap64 (a0_1 - 9))
                   ·rw [if_pos c40] at H
                    have c40b0 : decide (a2 ≤ (wrap64 (a0_1 - 9))) = true := decide_eq_true c40
                    clear c40
                    by_cases c41 : a1 ≤ 5
                    ·rw [if_pos c41] at H
                     have c41b0 : decide (a1 ≤ 5) = true := decide_eq_true c41
                     clear c41
                     obtain rfl := Option.some.inj H
                     obtain ⟨hcz42_0, hcz42_1, hcz42_2, hfz42_0, hfz42_1, hfz42_2⟩ := bk3 BK126.out
                     go_wp2
                     go_ret
                     exact ⟨errA, belA HB.out⟩
                    ·rw [if_neg c41] at H
                     have c41b0 : decide (a1 ≤ 5) = false := decide_eq_false c41
                     clear c41
                     obtain rfl := Option.some.inj H
                     obtain ⟨hcz43_0, hcz43_1, hcz43_2, hfz43_0, hfz43_1, hfz43_2⟩ := bk3 BK126.out
                     go_wp2
                     go_ret
                     exact ⟨errA, belA HB.out⟩
                   ·rw [if_neg c40] at H
                    have c40b0 : decide (a2 ≤ (wrap64 (a0_1 - 9))) = false := decide_eq_false c40
                    clear c40
                    obtain rfl := Option.some.inj H
                    obtain ⟨hcz44_0, hcz44_1, hcz44_2, hfz44_0, hfz44_1, hfz44_2⟩ := bk3 BK126.out
                    go_wp2
                    go_ret
                    exact ⟨errA, belA HB.out⟩
                  ·rw [if_neg c39] at H
                   have c39b0 : decide ((wrap64 (a0_1 - 11)) ≤ a2) = false := decide_eq_false c39
                   clear c39
                   obtain rfl := Option.some.inj H
                   obtain ⟨hcz45_0, hcz45_1, hcz45_2, hfz45_0, hfz45_1, hfz45_2⟩ := bk3 BK126.out
                   go_wp2
                   go_ret
                   exact ⟨errA, belA HB.out⟩
                ·rw [if_neg c36] at H
                 have c36b0 : decide (a1 ≤ (wrap64 (a0_1 - 9))) = false := decide_eq_false c36
                 clear c36
                 by_cases c46 : a2 ≥ (wrap64 (a0_1 - 11))
                 ·rw [if_pos c46] at H
                  have c46b0 : decide ((wrap64 (a0_1 - 11)) ≤ a2) = true := decide_eq_true c46
                  clear c46
                  by_cases c47 : a2 ≤ (wrap64 (a0_1 - 9))
                  ·rw [if_pos c47] at H
                   have c47b0 : decide (a2 ≤ (wrap64 (a0_1 - 9))) = true := decide_eq_true c47
                   clear c47
                   by_cases c48 : a1 ≤ 5
                   ·rw [if_pos c48] at H
                    have c48b0 : decide (a1 ≤ 5) = true := decide_eq_true c48
                    clear c48
                    obtain rfl := Option.some.inj H
                    obtain ⟨hcz49_0, hcz49_1, hcz49_2, hfz49_0, hfz49_1, hfz49_2⟩ := bk3 BK126.out
                    go_wp2
                    go_ret
                    exact ⟨errA, belA HB.out⟩
                   ·rw [if_neg c48] at H
                    have c48b0 : decide (a1 ≤ 5) = false := decide_eq_false c48
                    clear c48
                    obtain rfl := Option.some.inj H
                    obtain ⟨hcz50_0, hcz50_1, hcz50_2, hfz50_0, hfz50_1, hfz50_2⟩ := bk3 BK126.out
                    go_wp2
                    go_ret
                    exact ⟨errA, belA HB.out⟩
                  ·rw [if_neg c47] at H
                   have c47b0 : decide (a2 ≤ (wrap64 (a0_1 - 9))) = false := decide_eq_false c47
                   clear c47
                   obtain rfl := Option.some.inj H
                   obtain ⟨hcz51_0, hcz51_1, hcz51_2, hfz51_0, hfz51_1, hfz51_2⟩ := bk3 BK126.out
                   go_wp2
                   go_ret
                   exact ⟨errA, belA HB.out⟩
                 ·rw [if_neg c46] at H
                  have c46b0 : decide ((wrap64 (a0_1 - 11)) ≤ a2) = false := decide_eq_false c46
                  clear c46
                  obtain rfl := Option.some.inj H
                  obtain ⟨hcz52_0, hcz52_1, hcz52_2, hfz52_0, hfz52_1, hfz52_2⟩ := bk3 BK126.out
                  go_wp2
                  go_ret
                  exact ⟨errA, belA HB.out⟩
               ·rw [if_neg c35] at H
                have c35b0 : decide ((wrap64 (a0_1 - 11)) ≤ a1) = false := decide_eq_false c35
                clear c35
                by_cases c53 : a2 ≥ (wrap64 (a0_1 - 11))
                ·rw [if_pos c53] at H
                 have c53b0 : decide ((wrap64 (a0_1 - 11)) ≤ a2) = true := decide_eq_true c53
                 clear c53
                 by_cases c54 : a2 ≤ (wrap64 (a0_1 - 9))
                 ·rw [if_pos c54] at H
                  have c54b0 : decide (a2 ≤ (wrap64 (a0_1 - 9))) = true := decide_eq_true c54
                  clear c54
                  by_cases c55 : a1 ≤ 5
                  ·rw [if_pos c55] at H
                   have c55b0 : decide (a1 ≤ 5) = true := decide_eq_true c55
                   clear c55
                   obtain rfl := Option.some.inj H
                   obtain ⟨hcz56_0, hcz56_1, hcz56_2, hfz56_0, hfz56_1, hfz56_2⟩ := bk3 BK126.out
                   go_wp2
                   go_ret
                   exact ⟨errA, belA HB.out⟩
                  ·rw [if_neg c55] at H
                   have c55b0 : decide (a1 ≤ 5) = false := decide_eq_false c55
                   clear c55
                   obtain rfl := Option.some.inj H
                   obtain ⟨hcz57_0, hcz57_1, hcz57_2, hfz57_0, hfz57_1, hfz57_2⟩ := bk3 BK126.out
                   go_wp2
                   go_ret
                   exact ⟨errA, belA HB.out⟩
                 ·rw [if_neg c54] at H
                  have c54b0 : decide (a2 ≤ (wrap64 (a0_1 - 9))) = false := decide_eq_false c54
                  clear c54
                  obtain rfl := Option.some.inj H
                  obtain ⟨hcz58_0, hcz58_1, hcz58_2, hfz58_0, hfz58_1, hfz58_2⟩ := bk3 BK126.out
                  go_wp2
                  go_ret
                  exact ⟨errA, belA HB.out⟩
                ·rw [if_neg c53] at H
                 have c53b0 : decide ((wrap64 (a0_1 - 11)) ≤ a2) = false := decide_eq_false c53
                 clear c53
                 obtain rfl := Option.some.inj H
                 obtain ⟨hcz59_0, hcz59_1, hcz59_2, hfz59_0, hfz59_1, hfz59_2⟩ := bk3 BK126.out
                 go_wp2
                 go_ret
                 exact ⟨errA, belA HB.out⟩
              ·rw [if_neg c34] at H
               have c34b0 : decide (7 ≤ a0_0) = false := decide_eq_false c34
               clear c34
               obtain rfl := Option.some.inj H
               obtain ⟨hcz60_0, hcz60_1, hcz60_2, hfz60_0, hfz60_1, hfz60_2⟩ := bk3 BK126.out
               go_wp2
               go_ret
               exact ⟨errA, belA HB.out⟩

end Go.Proofs.Ytbbnagjfjgkgjaa.L
