-- Written by a program of this session out of the kit's print of the loaded functions (see wip/).
import Derived.Test.YtbbnagjfjgkgjaaK4Lx0
import Derived.Test.YtbbnagjfjgkgjaaK4Lx16
import Derived.Test.YtbbnagjfjgkgjaaK4Lx17
namespace Go.Proofs.Ytbbnagjfjgkgjaa.L
open Go.RowKit Go.Proofs.YtbbnagjfjgkgjaaW.PrintWords Go.Proofs.YtbbnagjfjgkgjaaW.PrintLast Go.Proofs.YtbbnagjfjgkgjaaW.PrintMore
attribute [local go_sem] max2_int min2_int max_two min_two max_three min_three max_four min_four   -- for this text's walks alone
set_option linter.unusedVariables false
set_option linter.unusedSimpArgs false

mutual
def barscanref20_Sign.j0 : Nat → Int → Int → Int → Bool → Int → Int → List Bool → Option (Int × Int × List Bool × Int)
 | 0, _, _, _, _, _, _, _ => none
 | k + 1, x1, x2, x8, x34, x373000, x373001, x373002 => if x34 = true then (some (0, 0, ([] : List Bool), 15)) else (if x2 < 0 then (barscanref20_Sign.j1 k x1 x2 x8 true x373000 x373001 x373002) else (barscanref20_Sign.j1 k x1 x2 x8 (decide (x2 > 7)) x373000 x373001 x373002))
def barscanref20_Sign.j1 : Nat → Int → Int → Int → Bool → Int → Int → List Bool → Option (Int × Int × List Bool × Int)
 | 0, _, _, _, _, _, _, _ => none
 | k + 1, x1, x2, x8, x41, x373000, x373001, x373002 => if x41 = true then (some (0, 0, ([] : List Bool), 3)) else ((barscanref20_Copy.f x373000 x373001 x373002).bind fun bt376 => ((barscanref08_Format.f k x1 x2).bind fun bt382 => ((barscanref08_Version.f k x8).bind fun bt384 => (barscanref20_Sign.l0 k x8 bt382.1 bt384.1 0 x373000 x373001 x373002 bt376.1 bt376.2.1 bt376.2.2))))
def barscanref20_Sign.l0 : Nat → Int → Int → Int → Int → Int → Int → List Bool → Int → Int → List Bool → Option (Int × Int × List Bool × Int)
 | 0, _, _, _, _, _, _, _, _, _, _ => none
 | k + 1, x8, x11, x13, x15, x373000, x373001, x373002, x382000, x382001, x382002 => if x15 < 2 then (barscanref20_Sign.l1 k x8 x11 x13 x15 0 x373000 x373001 x373002 x382000 x382001 x382002) else (some (x382000, x382001, x382002, 0))
def barscanref20_Sign.l1 : Nat → Int → Int → Int → Int → Int → Int → Int → List Bool → Int → Int → List Bool → Option (Int × Int × List Bool × Int)
 | 0, _, _, _, _, _, _, _, _, _, _, _ => none
 | k + 1, x8, x11, x13, x15, x16, x373000, x373001, x373002, x382000, x382001, x382002 => if x16 < 15 then ((barscanref20_FormatAt.f k x373000 x15 x16).bind fun bt386 => (if 0 ≤ (IntKind.u64.wrap (x16)) then (if 0 ≤ (wrap64 ((wrap64 (bt386.2 * x373000)) + bt386.1)) then (if (wrap64 ((wrap64 (bt386.2 * x373000)) + bt386.1)) < (x382002.length : Int) then (barscanref20_Sign.l1 k x8 x11 x13 x15 (wrap64 (x16 + 1)) x373000 x373001 x373002 x382000 x382001 (x382002.set ((wrap64 ((wrap64 (bt386.2 * x373000)) + bt386.1)) : Int).toNat ((Go.bits .and .i64 (shr .i64 x11 (IntKind.u64.wrap (x16))) 1) == 1))) else (none)) else (none)) else (none))) else (barscanref20_Sign.l2 k x8 x11 x13 x15 0 x373000 x373001 x373002 x382000 x382001 x382002)
def barscanref20_Sign.l2 : Nat → Int → Int → Int → Int → Int → Int → Int → List Bool → Int → Int → List Bool → Option (Int × Int × List Bool × Int)
 | 0, _, _, _, _, _, _, _, _, _, _, _ => none
 | k + 1, x8, x11, x13, x15, x18, x373000, x373001, x373002, x382000, x382001, x382002 => if x8 ≥ 7 then (if x18 < 18 then ((barscanref20_VersionAt.f x373000 x15 x18).bind fun bt390 => (if 0 ≤ (IntKind.u64.wrap (x18)) then (if 0 ≤ (wrap64 ((wrap64 (bt390.2 * x373000)) + bt390.1)) then (if (wrap64 ((wrap64 (bt390.2 * x373000)) + bt390.1)) < (x382002.length : Int) then (barscanref20_Sign.l2 k x8 x11 x13 x15 (wrap64 (x18 + 1)) x373000 x373001 x373002 x382000 x382001 (x382002.set ((wrap64 ((wrap64 (bt390.2 * x373000)) + bt390.1)) : Int).toNat ((Go.bits .and .i64 (shr .i64 x13 (IntKind.u64.wrap (x18))) 1) == 1))) else (none)) else (none)) else (none))) else (barscanref20_Sign.l0 k x8 x11 x13 (wrap64 (x15 + 1)) x373000 x373001 x373002 x382000 x382001 x382002)) else (barscanref20_Sign.l0 k x8 x11 x13 (wrap64 (x15 + 1)) x373000 x373001 x373002 x382000 x382001 x382002)
end
def barscanref20_Sign.f (k : Nat) (a0_0 : Int) (a0_1 : Int) (l0_2 : List Bool) (a1 : Int) (a2 : Int) : Option (Int × Int × List Bool × Int) := (barscanref20_Version.f a0_0 a0_1 l0_2).bind fun bt374 => (if bt374.2 = 0 then (if a1 < 1 then (barscanref20_Sign.j0 k a1 a2 bt374.1 true a0_0 a0_1 l0_2) else (barscanref20_Sign.j0 k a1 a2 bt374.1 (decide (a1 > 4)) a0_0 a0_1 l0_2)) else (some (0, 0, ([] : List Bool), bt374.2)))
set_option maxHeartbeats 8000000 in
set_option maxRecDepth 100000 in
theorem barscanref20_Sign.calls (k : Nat) (a0_0 : Int) (a0_1 : Int) (A0_2 : Option Addr) (c0_2 : Nat) (l0_2 : List Bool) (a1 : Int) (a2 : Int) (r1 : Int) (r2 : Int) (r3 : List Bool) (r4 : Int) (w : World) (hr0_2 : Kd.C Kd.bool w A0_2 l0_2.length l0_2) (hc0_2 : l0_2.length ≤ c0_2) (h : barscanref20_Sign.f k a0_0 a0_1 l0_2 a1 a2 = some (r1, r2, r3, r4)) :
  Calls Try.prog 18 #[.agg #[.int .i64 a0_0, .int .i64 a0_1, .slice A0_2 l0_2.length c0_2], .int .i64 a1, .int .i64 a2] w fun e w' => ∃ v2_ : Value, e = .returned (.tuple #[.agg #[.int .i64 r1, .int .i64 r2, v2_], .int .i64 r4]) ∧ Kd.R Kd.bool 4 w' w.heap.size (fun _ => True) v2_ r3 ∧ Below w.heap.size w w' := by
 have hu24 := Try.underlying24
 have hu45 := Try.underlying45
 have HR0_2 := Aside0.mk hr0_2
 have HC0_2 := Aside0.mk hc0_2
 clear hr0_2 hc0_2
 have HB := Aside0.mk (Below.refl w.heap.size w)
 have H : ((barscanref20_Version.f a0_0 a0_1 l0_2).bind fun bt374 => (if bt374.2 = 0 then (if a1 < 1 then (barscanref20_Sign.j0 k a1 a2 bt374.1 true a0_0 a0_1 l0_2) else (barscanref20_Sign.j0 k a1 a2 bt374.1 (decide (a1 > 4)) a0_0 a0_1 l0_2)) else (some (0, 0, ([] : List Bool), bt374.2)))) = some (r1, r2, r3, r4) := h
 clear h
 replace H := Option.bind_eq_some_iff.mp H
 obtain ⟨⟨t374, t375⟩, A40, H⟩ := H
 replace H : (if t375 = 0 then (if a1 < 1 then (barscanref20_Sign.j0 k a1 a2 t374 true a0_0 a0_1 l0_2) else (barscanref20_Sign.j0 k a1 a2 t374 (decide (a1 > 4)) a0_0 a0_1 l0_2)) else (some (0, 0, ([] : List Bool), t375))) = some (r1, r2, r3, r4) := H
 have A4 := Aside0.mk A40
 clear A40
 by_cases c5 : t375 = 0
 ·rw [if_pos c5] at H
  have c5b0 : (t375 == 0) = true := beq_iff_eq.mpr c5
  have c5b1 : (t375 != 0) = false := bne_eq_false_iff_eq.mpr c5
  clear c5
  have HC6 := Aside0.mk H
  clear H
  go_enter Try.func18, Try.ntmps18
  go_upto_region 4 with (first | ((with_reducible refine gate_dst (N := 3) rfl ?_); refine box_event ?hg (N := 3) ?hd (cs := #[.int .i64 a0_0, .int .i64 a0_1, .slice A0_2 l0_2.length c0_2]) (t := 24) ?hr ?_; (case hd => rfl); (case hg => rfl); (case hr => first | (go_simp; done) | (go_simp; rfl)); intro gb372 hg w7 hbox hb; have n0_ := Aside0.mk (below_step (belA HB.out) hb); have n1_ := Aside0.mk (hbox); have n2_ := Aside0.mk ((by rw [hg]; exact (below_size (belA HB.out)) : w.heap.size ≤ gb372)); have n3_ := Aside0.mk ((by rw [hg]; exact (below_size (belA HB.out)) : w.heap.size ≤ gb372)); clear HB; have HB := n0_; have BK372 := n1_; have GW372 := n2_; have GE372 := n3_; clear n0_ n1_ n2_ n3_; clear hb hbox hg) | ((with_reducible refine gate_dst (N := 6) rfl ?_); refine box_event ?hg (N := 6) ?hd (cs := #[.int .i64 0, .int .i64 0, .slice none 0 0]) (t := 24) ?hr ?_; (case hd => rfl); (case hg => rfl); (case hr => first | (go_simp; done) | (go_simp; rfl)); intro gb373 hg w8 hbox hb; have n0_ := Aside0.mk (blk_below (g := gb372) (o := .cells #[.int .i64 a0_0, .int .i64 a0_1, .slice A0_2 l0_2.length c0_2] 24 (0, 0)) (blkA BK372.out) hb); have n1_ := Aside0.mk (below_step (belA HB.out) hb); have n2_ := Aside0.mk (hbox); have n3_ := Aside0.mk ((by rw [hg]; exact (below_size (belA HB.out)) : w.heap.size ≤ gb373)); have n4_ := Aside0.mk ((by rw [hg]; exact (below_size (belA HB.out)) : w.heap.size ≤ gb373)); have n5_ := Aside0.mk ((by rw [hg]; exact Nat.ne_of_lt (blk_lt (g := gb372) (o := .cells #[.int .i64 a0_0, .int .i64 a0_1, .slice A0_2 l0_2.length c0_2] 24 (0, 0)) (blkA BK372.out)) : gb372 ≠ gb373)); have n6_ := Aside0.mk ((by rw [hg]; exact Nat.ne_of_gt (blk_lt (g := gb372) (o := .cells #[.int .i64 a0_0, .int .i64 a0_1, .slice A0_2 l0_2.length c0_2] 24 (0, 0)) (blkA BK372.out)) : gb373 ≠ gb372)); clear BK372; clear HB; have BK372 := n0_; have HB := n1_; have BK373 := n2_; have GW373 := n3_; have GE373 := n4_; have NB372_373 := n5_; have NB373_372 := n6_; clear n0_ n1_ n2_ n3_ n4_ n5_ n6_; clear hb hbox hg; have hnb9 := NB372_373.out; have hnc9 := NB373_372.out; have hcz10_0 : w8.cell? ⟨gb372, 0, none⟩ = some (.int .i64 a0_0) := (blk_cell BK372.out 0).trans rfl; have hcz10_1 : w8.cell? ⟨gb372, 1, none⟩ = some (.int .i64 a0_1) := (blk_cell BK372.out 1).trans rfl; have hcz10_2 : w8.cell? ⟨gb372, 2, none⟩ = some (.slice A0_2 l0_2.length c0_2) := (blk_cell BK372.out 2).trans rfl; have hfz10_0 := blk_frozen BK372.out 0; have hfz10_1 := blk_frozen BK372.out 1; have hfz10_2 := blk_frozen BK372.out 2) | ((with_reducible refine gate_callee (f := 35) rfl ?_); refine goesL_ (some 22) rfl rfl Try.func35 (by kernel_rfl) rfl #[.agg #[.int .i64 a0_0, .int .i64 a0_1, .slice A0_2 l0_2.length c0_2]] rfl (by (try simp only [List.map_toArray, List.map_cons, List.map_nil]); first | done | rfl | (simp only [List.length_drop, List.length_take]; rfl)) ?_; (with_reducible refine (barscanref20_Version.calls a0_0 a0_1 _ _ l0_2 t374 t375 _ ?side1 ?side2 A4.out).mono ?_); (case side1 => repeat (first | exact (Kd.C_below HR0_2.out HB.out) | (with_reducible refine Kd.C_alloc ?_ _) | (with_reducible refine Kd.C_drewN ?_ _) | (with_reducible refine Kd.C_drew ?_))); (case side2 => exact HC0_2.out); rintro e w11 ⟨rfl, hb⟩; refine ⟨_, rfl, ?_⟩; have n0_ := Aside0.mk (blk_below (g := gb372) (o := .cells #[.int .i64 a0_0, .int .i64 a0_1, .slice A0_2 l0_2.length c0_2] 24 (0, 0)) (blkA BK372.out) hb); have n1_ := Aside0.mk (blk_below (g := gb373) (o := .cells #[.int .i64 0, .int .i64 0, .slice none 0 0] 24 (0, 0)) (blkA BK373.out) hb); have n2_ := Aside0.mk (below_step (belA HB.out) hb); clear BK372; clear BK373; clear HB; have BK372 := n0_; have BK373 := n1_; have HB := n2_; clear n0_ n1_ n2_; (try clear hb); (try clear hb2); (try clear hk); (try clear hi)))
  (try simp only [Act.put, List.setIfInBounds_toArray, List.set_cons_zero, List.set_cons_succ])
  go_cut [34] (fun v34 wc => ∃ (kq : Nat) (x34_5 : Bool), v34 = .bool x34_5 ∧ Aside0 (barscanref20_Sign.j0 kq a1 a2 t374 x34_5 a0_0 a0_1 l0_2 = some (r1, r2, r3, r4)) ∧ Aside0 (kq ≤ k) ∧ Aside0 (wc.heap[gb372]? = some (.cells #[.int .i64 a0_0, .int .i64 a0_1, (.slice A0_2 l0_2.length c0_2)] 24 (0, 0))) ∧ Aside0 (wc.heap[gb373]? = some (.cells #[.int .i64 0, .int .i64 0, (.slice none 0 0)] 24 (0, 0))) ∧ Aside0 (Below w.heap.size w wc))
  case first =>
   have H := HC6.out
   clear HC6
   by_cases c12 : a1 < 1
   ·rw [if_pos c12] at H
    have c12b0 : decide (a1 < 1) = true := decide_eq_true c12
    clear c12
    (first | rw [c12b0] | (simp only [i64_w, i32_w]; rw [c12b0]) | skip)
    have H' := Aside0.mk H
    clear H
    go_wp2
    go_meet
    case rel => exact ⟨_, (true), (by first | rfl | (simp; done) | (simp [*]; done)), H', ⟨by first | omega | exact Nat.le_refl _⟩, ⟨blkA BK372.out⟩, ⟨blkA BK373.out⟩, ⟨belA HB.out⟩⟩
   ·rw [if_neg c12] at H
    have c12b0 : decide (a1 < 1) = false := decide_eq_false c12
    clear c12
    (first | rw [c12b0] | (simp only [i64_w, i32_w]; rw [c12b0]) | skip)
    have H' := Aside0.mk H
    clear H
    go_wp2
    go_meet
    case rel => exact ⟨_, (decide (a1 > 4)), (by first | rfl | (simp; done) | (simp [*]; done)), H', ⟨by first | omega | exact Nat.le_refl _⟩, ⟨blkA BK372.out⟩, ⟨blkA BK373.out⟩, ⟨belA HB.out⟩⟩
  case rest =>
   clear HC6
   try clear c1
   try clear p2
   try clear c3
   try clear c5
   try clear c5b0
   try clear c5b1
   try clear c9
   try clear c12
   try clear c12b0
   try clear hcz10_0
   try clear hcz10_1
   try clear hcz10_2
   try clear hfz10_0
   try clear hfz10_1
   try clear hfz10_2
   obtain ⟨kq, x34_5, rfl, HA, HJ5, BK372, BK373, HB⟩ := hcut
   cases kq with
   | zero => exact absurd HA.out (by simp [barscanref20_Sign.j0])
   | succ kj5 =>
    have H := HA.out
    clear HA
    simp only [barscanref20_Sign.j0] at H
    by_cases c13 : x34_5 = true
    ·subst c13
     have H1 : (some (0, 0, ([] : List Bool), 15)) = some (r1, r2, r3, r4) := by rw [if_pos rfl] at H; exact H
     clear H
     have H := H1
     clear H1
     simp only [Option.some.injEq, Prod.mk.injEq] at H
     obtain ⟨rfl, rfl, rfl, rfl⟩ := H
     have hnb14 := NB373_372.out
     have hnc14 := NB372_373.out
     have hcz15_0 : wc.cell? ⟨gb373, 0, none⟩ = some (.int .i64 0) := (blk_cell BK373.out 0).trans rfl
     have hcz15_1 : wc.cell? ⟨gb373, 1, none⟩ = some (.int .i64 0) := (blk_cell BK373.out 1).trans rfl
     have hcz15_2 : wc.cell? ⟨gb373, 2, none⟩ = some (.slice none 0 0) := (blk_cell BK373.out 2).trans rfl
     have hfz15_0 := blk_frozen BK373.out 0
     have hfz15_1 := blk_frozen BK373.out 1
     have hfz15_2 := blk_frozen BK373.out 2
     go_wp2
     refine bodyPost_ret (results_ct rfl _ _ gb373 24 #[.int .i64 0, .int .i64 0, .slice none 0 0] (0, 0) _ rfl (by (with_reducible repeat (first | refine blk_drewN ?_ _ | refine blk_drew ?_ | refine blk_alloc ?_ _)); refine blk_put (cs := #[.int .i64 0, .int .i64 0, .slice none 0 0]) ?_ 2 _ rfl; (with_reducible repeat (first | refine blk_drewN ?_ _ | refine blk_drew ?_ | refine blk_alloc ?_ _)); refine blk_put (cs := #[.int .i64 0, .int .i64 0, .slice none 0 0]) ?_ 1 _ rfl; (with_reducible repeat (first | refine blk_drewN ?_ _ | refine blk_drew ?_ | refine blk_alloc ?_ _)); refine blk_put (cs := #[.int .i64 0, .int .i64 0, .slice none 0 0]) ?_ 0 _ rfl; (with_reducible repeat (first | refine blk_drewN ?_ _ | refine blk_drew ?_ | refine blk_alloc ?_ _)); exact BK373.out) Try.underlying24 rfl (by kernel_rfl)) rfl ?_
     exact ⟨_, by first | rfl | (simp [errW_none, errW_some] <;> rfl) | (simp [*, errW_none, errW_some] <;> rfl), by first | exact Kd.R_nil _ _ _ _ _ | exact Kd.N_nil _ _ _ _ _ | exact Kd.V_nil _ _ _ _ _ | exact Kd.Q_nil _ _ _ _ _ | exact Kd.S_nil _ _ _ _ _, belA HB.out⟩
    ·replace c13 := Bool.eq_false_iff.mpr c13
     subst c13
     have H1 : (if a2 < 0 then (barscanref20_Sign.j1 kj5 a1 a2 t374 true a0_0 a0_1 l0_2) else (barscanref20_Sign.j1 kj5 a1 a2 t374 (decide (a2 > 7)) a0_0 a0_1 l0_2)) = some (r1, r2, r3, r4) := by rw [if_neg (show ¬ (false = true) by decide)] at H; exact H
     clear H
     have H := H1
     clear H1
     have HC16 := Aside0.mk H
     clear H
     go_upto_region 6 with (fail)
     go_cut [41] (fun v41 wc => ∃ (kq : Nat) (x41_15 : Bool), v41 = .bool x41_15 ∧ Aside0 (barscanref20_Sign.j1 kq a1 a2 t374 x41_15 a0_0 a0_1 l0_2 = some (r1, r2, r3, r4)) ∧ Aside0 (kq ≤ kj5) ∧ Aside0 (wc.heap[gb372]? = some (.cells #[.int .i64 a0_0, .int .i64 a0_1, (.slice A0_2 l0_2.length c0_2)] 24 (0, 0))) ∧ Aside0 (wc.heap[gb373]? = some (.cells #[.int .i64 0, .int .i64 0, (.slice none 0 0)] 24 (0, 0))) ∧ Aside0 (Below w.heap.size w wc))
     case first =>
      have H := HC16.out
      clear HC16
      by_cases c17 : a2 < 0
      ·rw [if_pos c17] at H
       have c17b0 : decide (a2 < 0) = true := decide_eq_true c17
       clear c17
       (first | rw [c17b0] | (simp only [i64_w, i32_w]; rw [c17b0]) | skip)
       have H' := Aside0.mk H
       clear H
       go_wp2
       go_meet
       case rel => exact ⟨_, (true), (by first | rfl | (simp; done) | (simp [*]; done)), H', ⟨by have := HJ5.out; first | omega | exact Nat.le_refl _⟩, ⟨blkA BK372.out⟩, ⟨blkA BK373.out⟩, ⟨belA HB.out⟩⟩
      ·rw [if_neg c17] at H
       have c17b0 : decide (a2 < 0) = false := decide_eq_false c17
       clear c17
       (first | rw [c17b0] | (simp only [i64_w, i32_w]; rw [c17b0]) | skip)
       have H' := Aside0.mk H
       clear H
       go_wp2
       go_meet
       case rel => exact ⟨_, (decide (a2 > 7)), (by first | rfl | (simp; done) | (simp [*]; done)), H', ⟨by have := HJ5.out; first | omega | exact Nat.le_refl _⟩, ⟨blkA BK372.out⟩, ⟨blkA BK373.out⟩, ⟨belA HB.out⟩⟩
     case rest =>
      clear HC16
      try clear c1
      try clear p2
      try clear c3
      try clear c5
      try clear c5b0
      try clear c5b1
      try clear c9
      try clear c12
      try clear c12b0
      try clear c13
      try clear c14
      try clear c17
      try clear c17b0
      try clear hcz10_0
      try clear hcz10_1
      try clear hcz10_2
      try clear hcz15_0
      try clear hcz15_1
      try clear hcz15_2
      try clear hfz10_0
      try clear hfz10_1
      try clear hfz10_2
      try clear hfz15_0
      try clear hfz15_1
      try clear hfz15_2
      try clear p2
      obtain ⟨kq, x41_15, rfl, HA, HJ15, BK372, BK373, HB⟩ := hcut
      cases kq with
      | zero => exact absurd HA.out (by simp [barscanref20_Sign.j1])
      | succ kj15 =>
       have H := HA.out
       clear HA
       simp only [barscanref20_Sign.j1] at H
       by_cases c18 : x41_15 = true
       ·subst c18
        have H1 : (some (0, 0, ([] : List Bool), 3)) = some (r1, r2, r3, r4) := by rw [if_pos rfl] at H; exact H
        clear H
        have H := H1
        clear H1
        simp only [Option.some.injEq, Prod.mk.injEq] at H
        obtain ⟨rfl, rfl, rfl, rfl⟩ := H
        have hnb19 := NB373_372.out
        have hnc19 := NB372_373.out
        have hcz20_0 : wc.cell? ⟨gb373, 0, none⟩ = some (.int .i64 0) := (blk_cell BK373.out 0).trans rfl
        have hcz20_1 : wc.cell? ⟨gb373, 1, none⟩ = some (.int .i64 0) := (blk_cell BK373.out 1).trans rfl
        have hcz20_2 : wc.cell? ⟨gb373, 2, none⟩ = some (.slice none 0 0) := (blk_cell BK373.out 2).trans rfl
        have hfz20_0 := blk_frozen BK373.out 0
        have hfz20_1 := blk_frozen BK373.out 1
        have hfz20_2 := blk_frozen BK373.out 2
        go_wp2
        refine bodyPost_ret (results_ct rfl _ _ gb373 24 #[.int .i64 0, .int .i64 0, .slice none 0 0] (0, 0) _ rfl (by (with_reducible repeat (first | refine blk_drewN ?_ _ | refine blk_drew ?_ | refine blk_alloc ?_ _)); refine blk_put (cs := #[.int .i64 0, .int .i64 0, .slice none 0 0]) ?_ 2 _ rfl; (with_reducible repeat (first | refine blk_drewN ?_ _ | refine blk_drew ?_ | refine blk_alloc ?_ _)); refine blk_put (cs := #[.int .i64 0, .int .i64 0, .slice none 0 0]) ?_ 1 _ rfl; (with_reducible repeat (first | refine blk_drewN ?_ _ | refine blk_drew ?_ | refine blk_alloc ?_ _)); refine blk_put (cs := #[.int .i64 0, .int .i64 0, .slice none 0 0]) ?_ 0 _ rfl; (with_reducible repeat (first | refine blk_drewN ?_ _ | refine blk_drew ?_ | refine blk_alloc ?_ _)); exact BK373.out) Try.underlying24 rfl (by kernel_rfl)) rfl ?_
        exact ⟨_, by first | rfl | (simp [errW_none, errW_some] <;> rfl) | (simp [*, errW_none, errW_some] <;> rfl), by first | exact Kd.R_nil _ _ _ _ _ | exact Kd.N_nil _ _ _ _ _ | exact Kd.V_nil _ _ _ _ _ | exact Kd.Q_nil _ _ _ _ _ | exact Kd.S_nil _ _ _ _ _, belA HB.out⟩
       ·replace c18 := Bool.eq_false_iff.mpr c18
        subst c18
        have H1 : ((barscanref20_Copy.f a0_0 a0_1 l0_2).bind fun bt376 => ((barscanref08_Format.f kj15 a1 a2).bind fun bt382 => ((barscanref08_Version.f kj15 t374).bind fun bt384 => (barscanref20_Sign.l0 kj15 t374 bt382.1 bt384.1 0 a0_0 a0_1 l0_2 bt376.1 bt376.2.1 bt376.2.2)))) = some (r1, r2, r3, r4) := by rw [if_neg (show ¬ (false = true) by decide)] at H; exact H
        clear H
        have H := H1
        clear H1
        replace H := Option.bind_eq_some_iff.mp H
        obtain ⟨⟨t376, t377, t378⟩, A210, H⟩ := H
        replace H : ((barscanref08_Format.f kj15 a1 a2).bind fun bt382 => ((barscanref08_Version.f kj15 t374).bind fun bt384 => (barscanref20_Sign.l0 kj15 t374 bt382.1 bt384.1 0 a0_0 a0_1 l0_2 t376 t377 t378))) = some (r1, r2, r3, r4) := H
        have A21 := Aside0.mk A210
        clear A210
        replace H := Option.bind_eq_some_iff.mp H
        obtain ⟨⟨t382, t383⟩, A220, H⟩ := H
        replace H : ((barscanref08_Version.f kj15 t374).bind fun bt384 => (barscanref20_Sign.l0 kj15 t374 t382 bt384.1 0 a0_0 a0_1 l0_2 t376 t377 t378)) = some (r1, r2, r3, r4) := H
        have A22 := Aside0.mk A220
        clear A220
        replace H := Option.bind_eq_some_iff.mp H
        obtain ⟨⟨t384, t385⟩, A230, H⟩ := H
        replace H : (barscanref20_Sign.l0 kj15 t374 t382 t384 0 a0_0 a0_1 l0_2 t376 t377 t378) = some (r1, r2, r3, r4) := H
        have A23 := Aside0.mk A230
        clear A230
        have H' := Aside0.mk H
        clear H
        have hnb24 := NB372_373.out
        have hnc24 := NB373_372.out
        have hcz25_0 : wc.cell? ⟨gb372, 0, none⟩ = some (.int .i64 a0_0) := (blk_cell BK372.out 0).trans rfl
        have hcz25_1 : wc.cell? ⟨gb372, 1, none⟩ = some (.int .i64 a0_1) := (blk_cell BK372.out 1).trans rfl
        have hcz25_2 : wc.cell? ⟨gb372, 2, none⟩ = some (.slice A0_2 l0_2.length c0_2) := (blk_cell BK372.out 2).trans rfl
        have hfz25_0 := blk_frozen BK372.out 0
        have hfz25_1 := blk_frozen BK372.out 1
        have hfz25_2 := blk_frozen BK372.out 2
        go_wp2_with (first | ((with_reducible refine gate_callee (f := 50) rfl ?_); refine goesL_ (some 44) rfl rfl Try.func50 (by kernel_rfl) rfl #[.agg #[.int .i64 a0_0, .int .i64 a0_1, .slice A0_2 l0_2.length c0_2]] rfl (by (try simp only [List.map_toArray, List.map_cons, List.map_nil]); first | done | rfl | (simp only [List.length_drop, List.length_take]; rfl)) ?_; (with_reducible refine (barscanref20_Copy.calls a0_0 a0_1 _ _ l0_2 t376 t377 t378 _ ?side1 ?side2 A21.out).mono ?_); (case side1 => repeat (first | exact (Kd.C_below HR0_2.out HB.out) | (with_reducible refine Kd.C_alloc ?_ _) | (with_reducible refine Kd.C_drewN ?_ _) | (with_reducible refine Kd.C_drew ?_))); (case side2 => exact HC0_2.out); rintro e w26 ⟨v379, rfl, ho0, hb⟩; refine ⟨_, rfl, ?_⟩; have n0_ := Aside0.mk (Kd.R_lower ho0 (below_size (belA HB.out))); have n1_ := Aside0.mk (blk_below (g := gb372) (o := .cells #[.int .i64 a0_0, .int .i64 a0_1, .slice A0_2 l0_2.length c0_2] 24 (0, 0)) (blkA BK372.out) hb); have n2_ := Aside0.mk (blk_below (g := gb373) (o := .cells #[.int .i64 0, .int .i64 0, .slice none 0 0] 24 (0, 0)) (blkA BK373.out) hb); have n3_ := Aside0.mk (below_step (belA HB.out) hb); clear BK372; clear BK373; clear HB; have HO380 := n0_; have BK372 := n1_; have BK373 := n2_; have HB := n3_; clear n0_ n1_ n2_ n3_; (try clear hb); (try clear hb2); (try clear hk); (try clear hi); (try clear ho0)) | ((with_reducible refine gate_dst (N := 10) rfl ?_); refine box_event ?hg (N := 10) ?hd (cs := #[.int .i64 0, .int .i64 0, .slice none 0 0]) (t := 24) ?hr ?_; (case hd => rfl); (case hg => rfl); (case hr => first | (go_simp; done) | (go_simp; rfl)); intro gb381 hg w27 hbox hb; have n0_ := Aside0.mk (Kd.R_below (rowA HO380.out) hb); have n1_ := Aside0.mk (blk_below (g := gb372) (o := .cells #[.int .i64 a0_0, .int .i64 a0_1, .slice A0_2 l0_2.length c0_2] 24 (0, 0)) (blkA BK372.out) hb); have n2_ := Aside0.mk (blk_below (g := gb373) (o := .cells #[.int .i64 0, .int .i64 0, .slice none 0 0] 24 (0, 0)) (blkA BK373.out) hb); have n3_ := Aside0.mk (below_step (belA HB.out) hb); have n4_ := Aside0.mk (hbox); have n5_ := Aside0.mk ((by rw [hg]; exact (below_size (belA HB.out)) : w.heap.size ≤ gb381)); have n6_ := Aside0.mk ((by rw [hg]; exact (below_size (belA HB.out)) : w.heap.size ≤ gb381)); have n7_ := Aside0.mk ((by rw [hg]; exact Nat.ne_of_lt (blk_lt (g := gb372) (o := .cells #[.int .i64 a0_0, .int .i64 a0_1, .slice A0_2 l0_2.length c0_2] 24 (0, 0)) (blkA BK372.out)) : gb372 ≠ gb381)); have n8_ := Aside0.mk ((by rw [hg]; exact Nat.ne_of_gt (blk_lt (g := gb372) (o := .cells #[.int .i64 a0_0, .int .i64 a0_1, .slice A0_2 l0_2.length c0_2] 24 (0, 0)) (blkA BK372.out)) : gb381 ≠ gb372)); have n9_ := Aside0.mk ((by rw [hg]; exact Nat.ne_of_lt (blk_lt (g := gb373) (o := .cells #[.int .i64 0, .int .i64 0, .slice none 0 0] 24 (0, 0)) (blkA BK373.out)) : gb373 ≠ gb381)); have n10_ := Aside0.mk ((by rw [hg]; exact Nat.ne_of_gt (blk_lt (g := gb373) (o := .cells #[.int .i64 0, .int .i64 0, .slice none 0 0] 24 (0, 0)) (blkA BK373.out)) : gb381 ≠ gb373)); clear HO380; clear BK372; clear BK373; clear HB; have HO380 := n0_; have BK372 := n1_; have BK373 := n2_; have HB := n3_; have BK381 := n4_; have GW381 := n5_; have GE381 := n6_; have NB372_381 := n7_; have NB381_372 := n8_; have NB373_381 := n9_; have NB381_373 := n10_; clear n0_ n1_ n2_ n3_ n4_ n5_ n6_ n7_ n8_ n9_ n10_; clear hb hbox hg; have hnb28 := NB381_372.out; have hnc28 := NB372_381.out; have hnb29 := NB381_373.out; have hnc29 := NB373_381.out; have hcz30_0 : w27.cell? ⟨gb381, 0, none⟩ = some (.int .i64 0) := (blk_cell BK381.out 0).trans rfl; have hcz30_1 : w27.cell? ⟨gb381, 1, none⟩ = some (.int .i64 0) := (blk_cell BK381.out 1).trans rfl; have hcz30_2 : w27.cell? ⟨gb381, 2, none⟩ = some (.slice none 0 0) := (blk_cell BK381.out 2).trans rfl; have hfz30_0 := blk_frozen BK381.out 0; have hfz30_1 := blk_frozen BK381.out 1; have hfz30_2 := blk_frozen BK381.out 2; obtain ⟨Ao31, co31, eo31⟩ := Kd.R_slice HO380.out; subst eo31) | ((with_reducible refine gate_callee (f := 51) rfl ?_); refine goesL_ (some 48) rfl rfl Try.func51 (by kernel_rfl) rfl #[.int .i64 a1, .int .i64 a2] rfl (by (try simp only [List.map_toArray, List.map_cons, List.map_nil]); first | done | rfl | (simp only [List.length_drop, List.length_take]; rfl)) ?_; (with_reducible refine (barscanref08_Format.calls kj15 a1 a2 t382 t383 _ A22.out).mono ?_); rintro e w' ⟨rfl, ⟨nd, rfl⟩⟩; refine ⟨_, rfl, ?_⟩) | ((with_reducible refine gate_callee (f := 52) rfl ?_); refine goesL_ (some 53) rfl rfl Try.func52 (by kernel_rfl) rfl #[.int .i64 t374] rfl (by (try simp only [List.map_toArray, List.map_cons, List.map_nil]); first | done | rfl | (simp only [List.length_drop, List.length_take]; rfl)) ?_; (with_reducible refine (barscanref08_Version.calls kj15 t374 t384 t385 _ A23.out).mono ?_); rintro e w' ⟨rfl, ⟨nd, rfl⟩⟩; refine ⟨_, rfl, ?_⟩))
        go_loopg [15] kj15 (fun kq v15 w' => ∃ (x15_3 : Int) (x382002_3 : List Bool) (u382002 : Value), v15 = .int .i64 x15_3 ∧ Aside0 (barscanref20_Sign.l0 kq t374 t382 t384 x15_3 a0_0 a0_1 l0_2 t376 t377 x382002_3 = some (r1, r2, r3, r4)) ∧ Aside0 (kq ≤ kj15) ∧ Aside0 (Kd.R Kd.bool 4 w' w.heap.size (fun _ => True) u382002 x382002_3) ∧ Aside0 (w'.heap[gb372]? = some (.cells #[.int .i64 a0_0, .int .i64 a0_1, (.slice A0_2 l0_2.length c0_2)] 24 (0, 0))) ∧ Aside0 (w'.heap[gb373]? = some (.cells #[.int .i64 0, .int .i64 0, (.slice none 0 0)] 24 (0, 0))) ∧ Aside0 (w'.heap[gb381]? = some (.cells #[.int .i64 t376, .int .i64 t377, u382002] 24 (0, 0))) ∧ Aside0 (Below w.heap.size w w'))
        case atStart => exact ⟨(0), (t378), (.slice Ao31 t378.length co31), (by first | rfl | (simp; done) | (simp [*]; done)), H', ⟨Nat.le_refl _⟩, ⟨by (with_reducible repeat (first | apply Kd.R_alloc | apply Kd.R_drewN | apply Kd.R_drew)); exact Kd.R_mono (Kd.R_far (p := ⟨gb381, 2, none⟩) (Kd.R_far (p := ⟨gb381, 1, none⟩) (Kd.R_far (p := ⟨gb381, 0, none⟩) (Kd.R_types HO380.out BK381.out (by decide)) (fun _ hk => hk.2) (.int .i64 t376)) (fun _ hk => hk.2) (.int .i64 t377)) (fun _ hk => hk.2) (.slice Ao31 t378.length co31)) (fun _ hk => trivial)⟩, ⟨by (with_reducible repeat (first | refine blk_drewN ?_ _ | refine blk_drew ?_ | refine blk_alloc ?_ _)); refine blk_far ?_ NB372_381.out _; (with_reducible repeat (first | refine blk_drewN ?_ _ | refine blk_drew ?_ | refine blk_alloc ?_ _)); refine blk_far ?_ NB372_381.out _; (with_reducible repeat (first | refine blk_drewN ?_ _ | refine blk_drew ?_ | refine blk_alloc ?_ _)); refine blk_far ?_ NB372_381.out _; (with_reducible repeat (first | refine blk_drewN ?_ _ | refine blk_drew ?_ | refine blk_alloc ?_ _)); exact BK372.out⟩, ⟨by (with_reducible repeat (first | refine blk_drewN ?_ _ | refine blk_drew ?_ | refine blk_alloc ?_ _)); refine blk_far ?_ NB373_381.out _; (with_reducible repeat (first | refine blk_drewN ?_ _ | refine blk_drew ?_ | refine blk_alloc ?_ _)); refine blk_far ?_ NB373_381.out _; (with_reducible repeat (first | refine blk_drewN ?_ _ | refine blk_drew ?_ | refine blk_alloc ?_ _)); refine blk_far ?_ NB373_381.out _; (with_reducible repeat (first | refine blk_drewN ?_ _ | refine blk_drew ?_ | refine blk_alloc ?_ _)); exact BK373.out⟩, ⟨by (with_reducible repeat (first | refine blk_drewN ?_ _ | refine blk_drew ?_ | refine blk_alloc ?_ _)); refine blk_put (cs := #[.int .i64 t376, .int .i64 t377, .slice none 0 0]) ?_ 2 _ rfl; (with_reducible repeat (first | refine blk_drewN ?_ _ | refine blk_drew ?_ | refine blk_alloc ?_ _)); refine blk_put (cs := #[.int .i64 t376, .int .i64 0, .slice none 0 0]) ?_ 1 _ rfl; (with_reducible repeat (first | refine blk_drewN ?_ _ | refine blk_drew ?_ | refine blk_alloc ?_ _)); refine blk_put (cs := #[.int .i64 0, .int .i64 0, .slice none 0 0]) ?_ 0 _ rfl; (with_reducible repeat (first | refine blk_drewN ?_ _ | refine blk_drew ?_ | refine blk_alloc ?_ _)); exact BK381.out⟩, ⟨belA HB.out⟩⟩
        case round =>
         clear H'
         try clear c1
         try clear c2
         try clear p2
         try clear c3
         try clear c5
         try clear c5b0
         try clear c5b1
         try clear c9
         try clear c12
         try clear c12b0
         try clear c13
         try clear c14
         try clear c17
         try clear c17b0
         try clear c18
         try clear c19
         try clear c24
         try clear c28
         try clear c29
         try clear hcz10_0
         try clear hcz10_1
         try clear hcz10_2
         try clear hcz15_0
         try clear hcz15_1
         try clear hcz15_2
         try clear hcz20_0
         try clear hcz20_1
         try clear hcz20_2
         try clear hcz25_0
         try clear hcz25_1
         try clear hcz25_2
         try clear hcz30_0
         try clear hcz30_1
         try clear hcz30_2
         try clear hfz10_0
         try clear hfz10_1
         try clear hfz10_2
         try clear hfz15_0
         try clear hfz15_1
         try clear hfz15_2
         try clear hfz20_0
         try clear hfz20_1
         try clear hfz20_2
         try clear hfz25_0
         try clear hfz25_1
         try clear hfz25_2
         try clear hfz30_0
         try clear hfz30_1
         try clear hfz30_2
         try clear p2
         obtain ⟨x15_3, x382002_3, u382002, rfl, HA, HK3, HO_382002, BK372, BK373, BK381, HB⟩ := hrel
         cases gk with
         | zero => exact absurd HA.out (by simp [barscanref20_Sign.l0])
         | succ k3 =>
          have H := HA.out
          clear HA
          simp only [barscanref20_Sign.l0] at H
          by_cases c32 : x15_3 < 2
          ·rw [if_pos c32] at H
           have c32b0 : decide (x15_3 < 2) = true := decide_eq_true c32
           clear c32
           have H' := Aside0.mk H
           clear H
           go_wp2
           go_loopg [16] k3 (fun kq v16 w' => ∃ (x16_4 : Int) (x382002_4 : List Bool) (u382002 : Value), v16 = .int .i64 x16_4 ∧ Aside0 (barscanref20_Sign.l1 kq t374 t382 t384 x15_3 x16_4 a0_0 a0_1 l0_2 t376 t377 x382002_4 = some (r1, r2, r3, r4)) ∧ Aside0 (kq ≤ k3) ∧ Aside0 (Kd.R Kd.bool 4 w' w.heap.size (fun _ => True) u382002 x382002_4) ∧ Aside0 (w'.heap[gb372]? = some (.cells #[.int .i64 a0_0, .int .i64 a0_1, (.slice A0_2 l0_2.length c0_2)] 24 (0, 0))) ∧ Aside0 (w'.heap[gb373]? = some (.cells #[.int .i64 0, .int .i64 0, (.slice none 0 0)] 24 (0, 0))) ∧ Aside0 (w'.heap[gb381]? = some (.cells #[.int .i64 t376, .int .i64 t377, u382002] 24 (0, 0))) ∧ Aside0 (Below w.heap.size w w'))
           case atStart => exact ⟨(0), (x382002_3), (u382002), (by first | rfl | (simp; done) | (simp [*]; done)), H', ⟨Nat.le_refl _⟩, ⟨rowA HO_382002.out⟩, ⟨blkA BK372.out⟩, ⟨blkA BK373.out⟩, ⟨blkA BK381.out⟩, ⟨belA HB.out⟩⟩
           case round =>
            clear H'
            try clear c1
            try clear c2
            try clear p2
            try clear c3
            try clear c5
            try clear c5b0
            try clear c5b1
            try clear c9
            try clear c12
            try clear c12b0
            try clear c13
            try clear c14
            try clear c17
            try clear c17b0
            try clear c18
            try clear c19
            try clear c24
            try clear c28
            try clear c29
            try clear c32
            try clear c32b0
            try clear hcz10_0
            try clear hcz10_1
            try clear hcz10_2
            try clear hcz15_0
            try clear hcz15_1
            try clear hcz15_2
            try clear hcz20_0
            try clear hcz20_1
            try clear hcz20_2
            try clear hcz25_0
            try clear hcz25_1
            try clear hcz25_2
            try clear hcz30_0
            try clear hcz30_1
            try clear hcz30_2
            try clear hfz10_0
            try clear hfz10_1
            try clear hfz10_2
            try clear hfz15_0
            try clear hfz15_1
            try clear hfz15_2
            try clear hfz20_0
            try clear hfz20_1
            try clear hfz20_2
            try clear hfz25_0
            try clear hfz25_1
            try clear hfz25_2
            try clear hfz30_0
            try clear hfz30_1
            try clear hfz30_2
            try clear p2
            obtain ⟨x16_4, x382002_4, u382002, rfl, HA, HK4, HO_382002, BK372, BK373, BK381, HB⟩ := hrel
            cases gk with
            | zero => exact absurd HA.out (by simp [barscanref20_Sign.l1])
            | succ k4 =>
             have H := HA.out
             clear HA
             simp only [barscanref20_Sign.l1] at H
             by_cases c33 : x16_4 < 15
             ·rw [if_pos c33] at H
              have c33b0 : decide (x16_4 < 15) = true := decide_eq_true c33
              clear c33
              replace H := Option.bind_eq_some_iff.mp H
              obtain ⟨⟨t386, t387⟩, A340, H⟩ := H
              replace H : (if 0 ≤ (IntKind.u64.wrap (x16_4)) then (if 0 ≤ (wrap64 ((wrap64 (t387 * a0_0)) + t386)) then (if (wrap64 ((wrap64 (t387 * a0_0)) + t386)) < (x382002_4.length : Int) then (barscanref20_Sign.l1 k4 t374 t382 t384 x15_3 (wrap64 (x16_4 + 1)) a0_0 a0_1 l0_2 t376 t377 (x382002_4.set ((wrap64 ((wrap64 (t387 * a0_0)) + t386)) : Int).toNat ((Go.bits .and .i64 (shr .i64 t382 (IntKind.u64.wrap (x16_4))) 1) == 1))) else (none)) else (none)) else (none)) = some (r1, r2, r3, r4) := H
              have A34 := Aside0.mk A340
              clear A340
              obtain ⟨ji35, hji35⟩ : ∃ j_ : Int, (IntKind.u64.wrap (x16_4)) = j_ := ⟨_, rfl⟩
              replace H : (if 0 ≤ (ji35) then (if 0 ≤ (wrap64 ((wrap64 (t387 * a0_0)) + t386)) then (if (wrap64 ((wrap64 (t387 * a0_0)) + t386)) < (x382002_4.length : Int) then (barscanref20_Sign.l1 k4 t374 t382 t384 x15_3 (wrap64 (x16_4 + 1)) a0_0 a0_1 l0_2 t376 t377 (x382002_4.set ((wrap64 ((wrap64 (t387 * a0_0)) + t386)) : Int).toNat ((Go.bits .and .i64 (shr .i64 t382 (ji35)) 1) == 1))) else (none)) else (none)) else (none)) = some (r1, r2, r3, r4) := by first | (rw [hji35] at H; exact H) | (simp only [hji35] at H ⊢; exact H)
              (try rw [hji35] at A34)
              by_cases c36 : 0 ≤ (ji35)
              ·rw [if_pos c36] at H
               have c36b0 := eq_true c36
               have c36b1 : decide (0 ≤ (ji35)) = true := decide_eq_true c36
               clear c36
               obtain ⟨ji37, hji37⟩ : ∃ j_ : Int, (shr .i64 t382 (ji35)) = j_ := ⟨_, rfl⟩
               replace H : (if 0 ≤ (wrap64 ((wrap64 (t387 * a0_0)) + t386)) then (if (wrap64 ((wrap64 (t387 * a0_0)) + t386)) < (x382002_4.length : Int) then (barscanref20_Sign.l1 k4 t374 t382 t384 x15_3 (wrap64 (x16_4 + 1)) a0_0 a0_1 l0_2 t376 t377 (x382002_4.set ((wrap64 ((wrap64 (t387 * a0_0)) + t386)) : Int).toNat ((Go.bits .and .i64 (ji37) 1) == 1))) else (none)) else (none)) = some (r1, r2, r3, r4) := by first | (rw [hji37] at H; exact H) | (simp only [hji37] at H ⊢; exact H)
               (try rw [hji37] at A34)
               have hji37_ : (t382 / 2 ^ min (ji35).toNat 64) = ji37 := hji37
               have hji37z : (ji35) ≤ 64 → (t382 / 2 ^ (ji35).toNat) = ji37 := shr_small hji37
               obtain ⟨ji38, hji38⟩ : ∃ j_ : Int, (wrap64 ((wrap64 (t387 * a0_0)) + t386)) = j_ := ⟨_, rfl⟩
               replace H : (if 0 ≤ (ji38) then (if (ji38) < (x382002_4.length : Int) then (barscanref20_Sign.l1 k4 t374 t382 t384 x15_3 (wrap64 (x16_4 + 1)) a0_0 a0_1 l0_2 t376 t377 (x382002_4.set ((ji38) : Int).toNat ((Go.bits .and .i64 (ji37) 1) == 1))) else (none)) else (none)) = some (r1, r2, r3, r4) := by first | (rw [hji38] at H; exact H) | (simp only [hji38] at H ⊢; exact H)
               (try rw [hji38] at A34)
               have hji38w : (IntKind.i64.wrap ((wrap64 (t387 * a0_0)) + t386)) = ji38 := (i64_w _).trans hji38
               by_cases c39 : 0 ≤ (ji38)
               ·rw [if_pos c39] at H
                have c39b0 : decide (0 ≤ (ji38)) = true := decide_eq_true c39
                clear c39
                by_cases c40 : (ji38) < (x382002_4.length : Int)
                ·rw [if_pos c40] at H
                 have c40b0 : decide ((ji38) < (x382002_4.length : Int)) = true := decide_eq_true c40
                 clear c40
                 obtain ⟨y389, hy389⟩ : ∃ y_ : List Bool, y_ = (x382002_4.set ((ji38) : Int).toNat ((Go.bits .and .i64 (ji37) 1) == 1)) := ⟨_, rfl⟩
                 replace H : (barscanref20_Sign.l1 k4 t374 t382 t384 x15_3 (wrap64 (x16_4 + 1)) a0_0 a0_1 l0_2 t376 t377 y389) = some (r1, r2, r3, r4) := by first | (rw [hy389]; with_reducible exact H) | (have H2_ := (Option.bind_some _ _).symm.trans H; rw [hy389]; with_reducible exact H2_) | (have H2_ := (Option.bind_some _ _).symm.trans H; with_reducible exact H2_) | with_reducible exact H | (rw [hy389]; exact H) | exact H
                 have Ny389 := Aside0.mk hy389
                 clear hy389
                 have H' := Aside0.mk H
                 clear H
                 have hnb42 := NB372_373.out
                 have hnc42 := NB373_372.out
                 have hnb43 := NB372_381.out
                 have hnc43 := NB381_372.out
                 have hcz44_0 : wr.cell? ⟨gb372, 0, none⟩ = some (.int .i64 a0_0) := (blk_cell BK372.out 0).trans rfl
                 have hcz44_1 : wr.cell? ⟨gb372, 1, none⟩ = some (.int .i64 a0_1) := (blk_cell BK372.out 1).trans rfl
                 have hcz44_2 : wr.cell? ⟨gb372, 2, none⟩ = some (.slice A0_2 l0_2.length c0_2) := (blk_cell BK372.out 2).trans rfl
                 have hfz44_0 := blk_frozen BK372.out 0
                 have hfz44_1 := blk_frozen BK372.out 1
                 have hfz44_2 := blk_frozen BK372.out 2
                 go_wp2_with (first | ((with_reducible refine gate_callee (f := 22) rfl ?_); refine goesL_ (some 68) rfl rfl Try.func22 (by kernel_rfl) rfl #[.int .i64 a0_0, .int .i64 x15_3, .int .i64 x16_4] rfl (by (try simp only [List.map_toArray, List.map_cons, List.map_nil]); first | done | rfl | (simp only [List.length_drop, List.length_take]; rfl)) ?_; (with_reducible refine (barscanref20_FormatAt.calls k4 a0_0 x15_3 x16_4 t386 t387 _ A34.out).mono ?_); rintro e w45 ⟨rfl, hb⟩; refine ⟨_, rfl, ?_⟩; have n0_ := Aside0.mk (Kd.R_below (rowA HO_382002.out) hb); have n1_ := Aside0.mk (blk_below (g := gb372) (o := .cells #[.int .i64 a0_0, .int .i64 a0_1, .slice A0_2 l0_2.length c0_2] 24 (0, 0)) (blkA BK372.out) hb); have n2_ := Aside0.mk (blk_below (g := gb373) (o := .cells #[.int .i64 0, .int .i64 0, .slice none 0 0] 24 (0, 0)) (blkA BK373.out) hb); have n3_ := Aside0.mk (blk_below (g := gb381) (o := .cells #[.int .i64 t376, .int .i64 t377, u382002] 24 (0, 0)) (blkA BK381.out) hb); have n4_ := Aside0.mk (below_step (belA HB.out) hb); clear HO_382002; clear BK372; clear BK373; clear BK381; clear HB; have HO_382002 := n0_; have BK372 := n1_; have BK373 := n2_; have BK381 := n3_; have HB := n4_; clear n0_ n1_ n2_ n3_ n4_; (try clear hb); (try clear hb2); (try clear hk); (try clear hi)) | ((with_reducible refine gate_dst (N := 17) rfl ?_); refine box_event ?hg (N := 17) ?hd (cs := #[.int .i64 0, .int .i64 0]) (t := 45) ?hr ?_; (case hd => rfl); (case hg => rfl); (case hr => first | (go_simp; done) | (go_simp; rfl)); intro gb388 hg w46 hbox hb; have n0_ := Aside0.mk (Kd.R_below (rowA HO_382002.out) hb); have n1_ := Aside0.mk (blk_below (g := gb372) (o := .cells #[.int .i64 a0_0, .int .i64 a0_1, .slice A0_2 l0_2.length c0_2] 24 (0, 0)) (blkA BK372.out) hb); have n2_ := Aside0.mk (blk_below (g := gb373) (o := .cells #[.int .i64 0, .int .i64 0, .slice none 0 0] 24 (0, 0)) (blkA BK373.out) hb); have n3_ := Aside0.mk (blk_below (g := gb381) (o := .cells #[.int .i64 t376, .int .i64 t377, u382002] 24 (0, 0)) (blkA BK381.out) hb); have n4_ := Aside0.mk (below_step (belA HB.out) hb); have n5_ := Aside0.mk (hbox); have n6_ := Aside0.mk ((by rw [hg]; exact (below_size (belA HB.out)) : w.heap.size ≤ gb388)); have n7_ := Aside0.mk ((by rw [hg]; exact (below_size (belA HB.out)) : w.heap.size ≤ gb388)); have n8_ := Aside0.mk ((by rw [hg]; exact Nat.ne_of_lt (blk_lt (g := gb372) (o := .cells #[.int .i64 a0_0, .int .i64 a0_1, .slice A0_2 l0_2.length c0_2] 24 (0, 0)) (blkA BK372.out)) : gb372 ≠ gb388)); have n9_ := Aside0.mk ((by rw [hg]; exact Nat.ne_of_gt (blk_lt (g := gb372) (o := .cells #[.int .i64 a0_0, .int .i64 a0_1, .slice A0_2 l0_2.length c0_2] 24 (0, 0)) (blkA BK372.out)) : gb388 ≠ gb372)); have n10_ := Aside0.mk ((by rw [hg]; exact Nat.ne_of_lt (blk_lt (g := gb373) (o := .cells #[.int .i64 0, .int .i64 0, .slice none 0 0] 24 (0, 0)) (blkA BK373.out)) : gb373 ≠ gb388)); have n11_ := Aside0.mk ((by rw [hg]; exact Nat.ne_of_gt (blk_lt (g := gb373) (o := .cells #[.int .i64 0, .int .i64 0, .slice none 0 0] 24 (0, 0)) (blkA BK373.out)) : gb388 ≠ gb373)); have n12_ := Aside0.mk ((by rw [hg]; exact Nat.ne_of_lt (blk_lt (g := gb381) (o := .cells #[.int .i64 t376, .int .i64 t377, u382002] 24 (0, 0)) (blkA BK381.out)) : gb381 ≠ gb388)); have n13_ := Aside0.mk ((by rw [hg]; exact Nat.ne_of_gt (blk_lt (g := gb381) (o := .cells #[.int .i64 t376, .int .i64 t377, u382002] 24 (0, 0)) (blkA BK381.out)) : gb388 ≠ gb381)); clear HO_382002; clear BK372; clear BK373; clear BK381; clear HB; have HO_382002 := n0_; have BK372 := n1_; have BK373 := n2_; have BK381 := n3_; have HB := n4_; have BK388 := n5_; have GW388 := n6_; have GE388 := n7_; have NB372_388 := n8_; have NB388_372 := n9_; have NB373_388 := n10_; have NB388_373 := n11_; have NB381_388 := n12_; have NB388_381 := n13_; clear n0_ n1_ n2_ n3_ n4_ n5_ n6_ n7_ n8_ n9_ n10_ n11_ n12_ n13_; clear hb hbox hg; have hnb47 := NB388_372.out; have hnc47 := NB372_388.out; have hnb48 := NB388_373.out; have hnc48 := NB373_388.out; have hnb49 := NB388_381.out; have hnc49 := NB381_388.out; have hcz50_0 : w46.cell? ⟨gb388, 0, none⟩ = some (.int .i64 0) := (blk_cell BK388.out 0).trans rfl; have hcz50_1 : w46.cell? ⟨gb388, 1, none⟩ = some (.int .i64 0) := (blk_cell BK388.out 1).trans rfl; have hfz50_0 := blk_frozen BK388.out 0; have hfz50_1 := blk_frozen BK388.out 1) | ((with_reducible refine gate_store (t := 45) (p := 17) rfl ?_); refine store_event (t := 45) (p := 17) (v := ?vo_w51) (w1 := ((w46.setCell ⟨gb388, 0, none⟩ (.int .i64 t386)).setCell ⟨gb388, 1, none⟩ (.int .i64 t387))) ?hg ?ho ?hn ?hr ?_; (case ho => rfl); (case hg => rfl); (case hn => rfl); (case hr => first | (go_simp; done) | (go_simp; rfl)); intro w51 hw; have n0_ : Aside0 (Kd.R Kd.bool 4 w51 w.heap.size (fun _ => True) u382002 x382002_4) := ⟨(by rw [hw]; exact (by (with_reducible repeat (first | apply Kd.R_alloc | apply Kd.R_drewN | apply Kd.R_drew)); exact Kd.R_mono (Kd.R_far (p := ⟨gb388, 1, none⟩) (Kd.R_far (p := ⟨gb388, 0, none⟩) (Kd.R_types HO_382002.out BK388.out (by decide)) (fun _ hk => hk.2) (.int .i64 t386)) (fun _ hk => hk.2) (.int .i64 t387)) (fun _ hk => trivial)))⟩; have n1_ : Aside0 (w51.heap[gb372]? = some (.cells #[.int .i64 a0_0, .int .i64 a0_1, .slice A0_2 l0_2.length c0_2] 24 (0, 0))) := ⟨(by rw [hw]; exact (by (with_reducible repeat (first | refine blk_drewN ?_ _ | refine blk_drew ?_ | refine blk_alloc ?_ _)); refine blk_far ?_ NB372_388.out _; (with_reducible repeat (first | refine blk_drewN ?_ _ | refine blk_drew ?_ | refine blk_alloc ?_ _)); refine blk_far ?_ NB372_388.out _; (with_reducible repeat (first | refine blk_drewN ?_ _ | refine blk_drew ?_ | refine blk_alloc ?_ _)); exact BK372.out))⟩; have n2_ : Aside0 (w51.heap[gb373]? = some (.cells #[.int .i64 0, .int .i64 0, .slice none 0 0] 24 (0, 0))) := ⟨(by rw [hw]; exact (by (with_reducible repeat (first | refine blk_drewN ?_ _ | refine blk_drew ?_ | refine blk_alloc ?_ _)); refine blk_far ?_ NB373_388.out _; (with_reducible repeat (first | refine blk_drewN ?_ _ | refine blk_drew ?_ | refine blk_alloc ?_ _)); refine blk_far ?_ NB373_388.out _; (with_reducible repeat (first | refine blk_drewN ?_ _ | refine blk_drew ?_ | refine blk_alloc ?_ _)); exact BK373.out))⟩; have n3_ : Aside0 (w51.heap[gb381]? = some (.cells #[.int .i64 t376, .int .i64 t377, u382002] 24 (0, 0))) := ⟨(by rw [hw]; exact (by (with_reducible repeat (first | refine blk_drewN ?_ _ | refine blk_drew ?_ | refine blk_alloc ?_ _)); refine blk_far ?_ NB381_388.out _; (with_reducible repeat (first | refine blk_drewN ?_ _ | refine blk_drew ?_ | refine blk_alloc ?_ _)); refine blk_far ?_ NB381_388.out _; (with_reducible repeat (first | refine blk_drewN ?_ _ | refine blk_drew ?_ | refine blk_alloc ?_ _)); exact BK381.out))⟩; have n4_ : Aside0 (w51.heap[gb388]? = some (.cells #[.int .i64 t386, .int .i64 t387] 45 (0, 0))) := ⟨(by rw [hw]; exact (by (with_reducible repeat (first | refine blk_drewN ?_ _ | refine blk_drew ?_ | refine blk_alloc ?_ _)); refine blk_put (cs := #[.int .i64 t386, .int .i64 0]) ?_ 1 _ rfl; (with_reducible repeat (first | refine blk_drewN ?_ _ | refine blk_drew ?_ | refine blk_alloc ?_ _)); refine blk_put (cs := #[.int .i64 0, .int .i64 0]) ?_ 0 _ rfl; (with_reducible repeat (first | refine blk_drewN ?_ _ | refine blk_drew ?_ | refine blk_alloc ?_ _)); exact BK388.out))⟩; have n5_ : Aside0 (Below w.heap.size w w51) := ⟨(by rw [hw]; exact (belA HB.out))⟩; clear hw; clear HO_382002; clear BK372; clear BK373; clear BK381; clear BK388; clear HB; have HO_382002 := n0_; have BK372 := n1_; have BK373 := n2_; have BK381 := n3_; have BK388 := n4_; have HB := n5_; clear n0_ n1_ n2_ n3_ n4_ n5_; have hnb52 := NB381_373.out; have hnc52 := NB373_381.out; have hcz53_0 : w51.cell? ⟨gb381, 0, none⟩ = some (.int .i64 t376) := (blk_cell BK381.out 0).trans rfl; have hcz53_1 : w51.cell? ⟨gb381, 1, none⟩ = some (.int .i64 t377) := (blk_cell BK381.out 1).trans rfl; have hcz53_2 : w51.cell? ⟨gb381, 2, none⟩ = some (u382002) := (blk_cell BK381.out 2).trans rfl; have hfz53_0 := blk_frozen BK381.out 0; have hfz53_1 := blk_frozen BK381.out 1; have hfz53_2 := blk_frozen BK381.out 2; have hcz54_0 : w51.cell? ⟨gb388, 0, none⟩ = some (.int .i64 t386) := (blk_cell BK388.out 0).trans rfl; have hcz54_1 : w51.cell? ⟨gb388, 1, none⟩ = some (.int .i64 t387) := (blk_cell BK388.out 1).trans rfl; have hfz54_0 := blk_frozen BK388.out 0; have hfz54_1 := blk_frozen BK388.out 1; have hcz55_0 : w51.cell? ⟨gb372, 0, none⟩ = some (.int .i64 a0_0) := (blk_cell BK372.out 0).trans rfl; have hcz55_1 : w51.cell? ⟨gb372, 1, none⟩ = some (.int .i64 a0_1) := (blk_cell BK372.out 1).trans rfl; have hcz55_2 : w51.cell? ⟨gb372, 2, none⟩ = some (.slice A0_2 l0_2.length c0_2) := (blk_cell BK372.out 2).trans rfl; have hfz55_0 := blk_frozen BK372.out 0; have hfz55_1 := blk_frozen BK372.out 1; have hfz55_2 := blk_frozen BK372.out 2; have p41 : 0 ≤ ((ji38) : Int) := of_decide_eq_true (by first | (with_reducible assumption) | assumption); have q41 : ((ji38) : Int) < ((x382002_4.length : Int) : Int) := of_decide_eq_true (by first | (with_reducible assumption) | assumption); obtain ⟨go41, co41, eo41, gb41, gl41, cl41, HG41⟩ := Kd.R_form HO_382002.out (by omega); (first | cases eo41 | (injection eo41 with ea_ en_ ec_; (first | subst ea_ | (injection ea_ with ea_; subst ea_)); subst ec_; clear en_)); have GB41 := Aside0.mk gb41; have GG41 := Aside0.mk HG41; clear gb41 gl41 HG41; obtain ⟨hx41_0, hf41_0⟩ := Kd.R_celln false HO_382002.out ((ji38) : Int) p41 q41; replace p41 := eq_true p41; replace q41 := eq_true q41; obtain ⟨hy56_, hz56_⟩ := Kd.R_celln false HO_382002.out ((ji38) : Int) (of_decide_eq_true (by first | (with_reducible assumption) | assumption)) (of_decide_eq_true (by first | (with_reducible assumption) | assumption)); have HP56 := Kd.R_putg HO_382002.out ((ji38) : Int) ((Go.bits .and .i64 (ji37) 1) == 1)) | ((with_reducible refine gate_store (t := 4) (p := 85) rfl ?_); refine store_event (t := 4) (p := 85) (v := ?vo_w57) (w1 := (w51.setCell ⟨go41, ((ji38) : Int).toNat, none⟩ (.bool ((Go.bits .and .i64 (ji37) 1) == 1)))) ?hg ?ho ?hn ?hr ?_; (case ho => rfl); (case hg => rfl); (case hn => rfl); (case hr => first | (go_simp; done) | (go_simp; rfl)); intro w57 hw; have hg : w51.grownBy w57 (some go41) := (by rw [hw]; exact HP56.2); have hp_ : Kd.R Kd.bool 4 w57 w.heap.size (fun _ => True) (.slice (some ⟨go41, 0, none⟩) x382002_4.length co41) y389 := (by rw [hw, Ny389.out]; exact HP56.1); clear HP56; have n0_ := Aside0.mk (hp_); have n1_ := Aside0.mk (blk_grown (g := gb372) (o := .cells #[.int .i64 a0_0, .int .i64 a0_1, .slice A0_2 l0_2.length c0_2] 24 (0, 0)) (blkA BK372.out) hg (Kd.R_ne HO_382002.out BK372.out (by decide))); have n2_ := Aside0.mk (blk_grown (g := gb373) (o := .cells #[.int .i64 0, .int .i64 0, .slice none 0 0] 24 (0, 0)) (blkA BK373.out) hg (Kd.R_ne HO_382002.out BK373.out (by decide))); have n3_ := Aside0.mk (blk_grown (g := gb381) (o := .cells #[.int .i64 t376, .int .i64 t377, .slice (some ⟨go41, 0, none⟩) x382002_4.length co41] 24 (0, 0)) (blkA BK381.out) hg (Kd.R_ne HO_382002.out BK381.out (by decide))); have n4_ := Aside0.mk (blk_grown (g := gb388) (o := .cells #[.int .i64 t386, .int .i64 t387] 45 (0, 0)) (blkA BK388.out) hg (Kd.R_ne HO_382002.out BK388.out (by decide))); have n5_ := Aside0.mk ((by rw [hw]; exact below_set (HB.out) GB41.out : Below w.heap.size w w57)); clear HO_382002; clear BK372; clear BK373; clear BK381; clear BK388; clear HB; have HO_382002 := n0_; have BK372 := n1_; have BK373 := n2_; have BK381 := n3_; have BK388 := n4_; have HB := n5_; clear n0_ n1_ n2_ n3_ n4_ n5_; clear hg hw hp_))
                 go_roundg k4
                 case measure => have := HJ5.out; have := HJ15.out; have := HK3.out; have := HK4.out; omega
                 case rel => exact ⟨(wrap64 (x16_4 + 1)), (y389), (.slice (some ⟨go41, 0, none⟩) x382002_4.length co41), (by first | rfl | (simp; done) | (simp [*]; done)), H', ⟨by have := HJ5.out; have := HJ15.out; have := HK3.out; have := HK4.out; omega⟩, ⟨rowA HO_382002.out⟩, ⟨blkA BK372.out⟩, ⟨blkA BK373.out⟩, ⟨blkA BK381.out⟩, ⟨belA HB.out⟩⟩
                ·rw [if_neg c40] at H
                 exact absurd H (by simp)
               ·rw [if_neg c39] at H
                exact absurd H (by simp)
              ·rw [if_neg c36] at H
               exact absurd H (by simp)
             ·rw [if_neg c33] at H
              have c33b0 : decide (x16_4 < 15) = false := decide_eq_false c33
              clear c33
              have H' := Aside0.mk H
              clear H
              go_wp2
              go_loopg [18] k4 (fun kq v18 w' => ∃ (x18_5 : Int) (x382002_5 : List Bool) (u382002 : Value), v18 = .int .i64 x18_5 ∧ Aside0 (barscanref20_Sign.l2 kq t374 t382 t384 x15_3 x18_5 a0_0 a0_1 l0_2 t376 t377 x382002_5 = some (r1, r2, r3, r4)) ∧ Aside0 (kq ≤ k4) ∧ Aside0 (Kd.R Kd.bool 4 w' w.heap.size (fun _ => True) u382002 x382002_5) ∧ Aside0 (w'.heap[gb372]? = some (.cells #[.int .i64 a0_0, .int .i64 a0_1, (.slice A0_2 l0_2.length c0_2)] 24 (0, 0))) ∧ Aside0 (w'.heap[gb373]? = some (.cells #[.int .i64 0, .int .i64 0, (.slice none 0 0)] 24 (0, 0))) ∧ Aside0 (w'.heap[gb381]? = some (.cells #[.int .i64 t376, .int .i64 t377, u382002] 24 (0, 0))) ∧ Aside0 (Below w.heap.size w w'))
              case atStart => exact ⟨(0), (x382002_4), (u382002), (by first | rfl | (simp; done) | (simp [*]; done)), H', ⟨Nat.le_refl _⟩, ⟨rowA HO_382002.out⟩, ⟨blkA BK372.out⟩, ⟨blkA BK373.out⟩, ⟨blkA BK381.out⟩, ⟨belA HB.out⟩⟩
              case round =>
               clear H'
               try clear c1
               try clear c2
               try clear p2
               try clear c3
               try clear c4
               try clear p4
               try clear q4
               try clear hx4
               try clear hf4
               try clear c5
               try clear c5b0
               try clear c5b1
               try clear p6
               try clear c9
               try clear c12
               try clear c12b0
               try clear c13
               try clear c14
               try clear c17
               try clear c17b0
               try clear c18
               try clear c19
               try clear c22
               try clear c24
               try clear c28
               try clear c29
               try clear c32
               try clear c32b0
               try clear c33
               try clear c33b0
               try clear c35
               try clear c36
               try clear c36b0
               try clear c36b1
               try clear c39
               try clear c39b0
               try clear c40
               try clear c40b0
               try clear p41
               try clear q41
               try clear hx41
               try clear hf41
               try clear c42
               try clear c43
               try clear c47
               try clear c48
               try clear c49
               try clear c50
               try clear c51
               try clear c52
               try clear hcz10_0
               try clear hcz10_1
               try clear hcz10_2
               try clear hcz15_0
               try clear hcz15_1
               try clear hcz15_2
               try clear hcz20_0
               try clear hcz20_1
               try clear hcz20_2
               try clear hcz25_0
               try clear hcz25_1
               try clear hcz25_2
               try clear hcz30_0
               try clear hcz30_1
               try clear hcz30_2
               try clear hcz44_0
               try clear hcz44_1
               try clear hcz44_2
               try clear hcz50_0
               try clear hcz50_1
               try clear hcz53_0
               try clear hcz53_1
               try clear hcz53_2
               try clear hcz54_0
               try clear hcz54_1
               try clear hcz55_0
               try clear hcz55_1
               try clear hcz55_2
               try clear hfz10_0
               try clear hfz10_1
               try clear hfz10_2
               try clear hfz15_0
               try clear hfz15_1
               try clear hfz15_2
               try clear hfz20_0
               try clear hfz20_1
               try clear hfz20_2
               try clear hfz25_0
               try clear hfz25_1
               try clear hfz25_2
               try clear hfz30_0
               try clear hfz30_1
               try clear hfz30_2
               try clear hfz44_0
               try clear hfz44_1
               try clear hfz44_2
               try clear hfz50_0
               try clear hfz50_1
               try clear hfz53_0
               try clear hfz53_1
               try clear hfz53_2
               try clear hfz54_0
               try clear hfz54_1
               try clear hfz55_0
               try clear hfz55_1
               try clear hfz55_2
               try clear hx41_0
               try clear p2
               try clear p41
               try clear q41
               obtain ⟨x18_5, x382002_5, u382002, rfl, HA, HK5, HO_382002, BK372, BK373, BK381, HB⟩ := hrel
               cases gk with
               | zero => exact absurd HA.out (by simp [barscanref20_Sign.l2])
               | succ k5 =>
                have H := HA.out
                clear HA
                simp only [barscanref20_Sign.l2] at H
                by_cases c58 : t374 ≥ 7
                ·rw [if_pos c58] at H
                 have c58b0 : decide (7 ≤ t374) = true := decide_eq_true c58
                 clear c58
                 by_cases c59 : x18_5 < 18
                 ·rw [if_pos c59] at H
                  have c59b0 : decide (x18_5 < 18) = true := decide_eq_true c59
                  clear c59
                  replace H := Option.bind_eq_some_iff.mp H
                  obtain ⟨⟨t390, t391⟩, A600, H⟩ := H
                  replace H : (if 0 ≤ (IntKind.u64.wrap (x18_5)) then (if 0 ≤ (wrap64 ((wrap64 (t391 * a0_0)) + t390)) then (if (wrap64 ((wrap64 (t391 * a0_0)) + t390)) < (x382002_5.length : Int) then (barscanref20_Sign.l2 k5 t374 t382 t384 x15_3 (wrap64 (x18_5 + 1)) a0_0 a0_1 l0_2 t376 t377 (x382002_5.set ((wrap64 ((wrap64 (t391 * a0_0)) + t390)) : Int).toNat ((Go.bits .and .i64 (shr .i64 t384 (IntKind.u64.wrap (x18_5))) 1) == 1))) else (none)) else (none)) else (none)) = some (r1, r2, r3, r4) := H
                  have A60 := Aside0.mk A600
                  clear A600
                  obtain ⟨ji61, hji61⟩ : ∃ j_ : Int, (IntKind.u64.wrap (x18_5)) = j_ := ⟨_, rfl⟩
                  replace H : (if 0 ≤ (ji61) then (if 0 ≤ (wrap64 ((wrap64 (t391 * a0_0)) + t390)) then (if (wrap64 ((wrap64 (t391 * a0_0)) + t390)) < (x382002_5.length : Int) then (barscanref20_Sign.l2 k5 t374 t382 t384 x15_3 (wrap64 (x18_5 + 1)) a0_0 a0_1 l0_2 t376 t377 (x382002_5.set ((wrap64 ((wrap64 (t391 * a0_0)) + t390)) : Int).toNat ((Go.bits .and .i64 (shr .i64 t384 (ji61)) 1) == 1))) else (none)) else (none)) else (none)) = some (r1, r2, r3, r4) := by first | (rw [hji61] at H; exact H) | (simp only [hji61] at H ⊢; exact H)
                  (try rw [hji61] at A60)
                  by_cases c62 : 0 ≤ (ji61)
                  ·rw [if_pos c62] at H
                   have c62b0 := eq_true c62
                   have c62b1 : decide (0 ≤ (ji61)) = true := decide_eq_true c62
                   clear c62
                   obtain ⟨ji63, hji63⟩ : ∃ j_ : Int, (shr .i64 t384 (ji61)) = j_ := ⟨_, rfl⟩
                   replace H : (if 0 ≤ (wrap64 ((wrap64 (t391 * a0_0)) + t390)) then (if (wrap64 ((wrap64 (t391 * a0_0)) + t390)) < (x382002_5.length : Int) then (barscanref20_Sign.l2 k5 t374 t382 t384 x15_3 (wrap64 (x18_5 + 1)) a0_0 a0_1 l0_2 t376 t377 (x382002_5.set ((wrap64 ((wrap64 (t391 * a0_0)) + t390)) : Int).toNat ((Go.bits .and .i64 (ji63) 1) == 1))) else (none)) else (none)) = some (r1, r2, r3, r4) := by first | (rw [hji63] at H; exact H) | (simp only [hji63] at H ⊢; exact H)
                   (try rw [hji63] at A60)
                   have hji63_ : (t384 / 2 ^ min (ji61).toNat 64) = ji63 := hji63
                   have hji63z : (ji61) ≤ 64 → (t384 / 2 ^ (ji61).toNat) = ji63 := shr_small hji63
                   obtain ⟨ji64, hji64⟩ : ∃ j_ : Int, (wrap64 ((wrap64 (t391 * a0_0)) + t390)) = j_ := ⟨_, rfl⟩
                   replace H : (if 0 ≤ (ji64) then (if (ji64) < (x382002_5.length : Int) then (barscanref20_Sign.l2 k5 t374 t382 t384 x15_3 (wrap64 (x18_5 + 1)) a0_0 a0_1 l0_2 t376 t377 (x382002_5.set ((ji64) : Int).toNat ((Go.bits .and .i64 (ji63) 1) == 1))) else (none)) else (none)) = some (r1, r2, r3, r4) := by first | (rw [hji64] at H; exact H) | (simp only [hji64] at H ⊢; exact H)
                   (try rw [hji64] at A60)
                   have hji64w : (IntKind.i64.wrap ((wrap64 (t391 * a0_0)) + t390)) = ji64 := (i64_w _).trans hji64
                   by_cases c65 : 0 ≤ (ji64)
                   ·rw [if_pos c65] at H
                    have c65b0 : decide (0 ≤ (ji64)) = true := decide_eq_true c65
                    clear c65
                    by_cases c66 : (ji64) < (x382002_5.length : Int)
                    ·rw [if_pos c66] at H
                     have c66b0 : decide ((ji64) < (x382002_5.length : Int)) = true := decide_eq_true c66
                     clear c66
                     obtain ⟨y393, hy393⟩ : ∃ y_ : List Bool, y_ = (x382002_5.set ((ji64) : Int).toNat ((Go.bits .and .i64 (ji63) 1) == 1)) := ⟨_, rfl⟩
                     replace H : (barscanref20_Sign.l2 k5 t374 t382 t384 x15_3 (wrap64 (x18_5 + 1)) a0_0 a0_1 l0_2 t376 t377 y393) = some (r1, r2, r3, r4) := by first | (rw [hy393]; with_reducible exact H) | (have H2_ := (Option.bind_some _ _).symm.trans H; rw [hy393]; with_reducible exact H2_) | (have H2_ := (Option.bind_some _ _).symm.trans H; with_reducible exact H2_) | with_reducible exact H | (rw [hy393]; exact H) | exact H
                     have Ny393 := Aside0.mk hy393
                     clear hy393
                     have H' := Aside0.mk H
                     clear H
                     have hnb68 := NB372_373.out
                     have hnc68 := NB373_372.out
                     have hnb69 := NB372_381.out
                     have hnc69 := NB381_372.out
                     have hcz70_0 : wr.cell? ⟨gb372, 0, none⟩ = some (.int .i64 a0_0) := (blk_cell BK372.out 0).trans rfl
                     have hcz70_1 : wr.cell? ⟨gb372, 1, none⟩ = some (.int .i64 a0_1) := (blk_cell BK372.out 1).trans rfl
                     have hcz70_2 : wr.cell? ⟨gb372, 2, none⟩ = some (.slice A0_2 l0_2.length c0_2) := (blk_cell BK372.out 2).trans rfl
                     have hfz70_0 := blk_frozen BK372.out 0
                     have hfz70_1 := blk_frozen BK372.out 1
                     have hfz70_2 := blk_frozen BK372.out 2
                     go_wp2_with (first | ((with_reducible refine gate_callee (f := 21) rfl ?_); refine goesL_ (some 98) rfl rfl Try.func21 (by kernel_rfl) rfl #[.int .i64 a0_0, .int .i64 x15_3, .int .i64 x18_5] rfl (by (try simp only [List.map_toArray, List.map_cons, List.map_nil]); first | done | rfl | (simp only [List.length_drop, List.length_take]; rfl)) ?_; (with_reducible refine (barscanref20_VersionAt.calls a0_0 x15_3 x18_5 t390 t391 _ A60.out).mono ?_); rintro e w71 ⟨rfl, hb⟩; refine ⟨_, rfl, ?_⟩; have n0_ := Aside0.mk (Kd.R_below (rowA HO_382002.out) hb); have n1_ := Aside0.mk (blk_below (g := gb372) (o := .cells #[.int .i64 a0_0, .int .i64 a0_1, .slice A0_2 l0_2.length c0_2] 24 (0, 0)) (blkA BK372.out) hb); have n2_ := Aside0.mk (blk_below (g := gb373) (o := .cells #[.int .i64 0, .int .i64 0, .slice none 0 0] 24 (0, 0)) (blkA BK373.out) hb); have n3_ := Aside0.mk (blk_below (g := gb381) (o := .cells #[.int .i64 t376, .int .i64 t377, u382002] 24 (0, 0)) (blkA BK381.out) hb); have n4_ := Aside0.mk (below_step (belA HB.out) hb); clear HO_382002; clear BK372; clear BK373; clear BK381; clear HB; have HO_382002 := n0_; have BK372 := n1_; have BK373 := n2_; have BK381 := n3_; have HB := n4_; clear n0_ n1_ n2_ n3_ n4_; (try clear hb); (try clear hb2); (try clear hk); (try clear hi)) | ((with_reducible refine gate_dst (N := 19) rfl ?_); refine box_event ?hg (N := 19) ?hd (cs := #[.int .i64 0, .int .i64 0]) (t := 45) ?hr ?_; (case hd => rfl); (case hg => rfl); (case hr => first | (go_simp; done) | (go_simp; rfl)); intro gb392 hg w72 hbox hb; have n0_ := Aside0.mk (Kd.R_below (rowA HO_382002.out) hb); have n1_ := Aside0.mk (blk_below (g := gb372) (o := .cells #[.int .i64 a0_0, .int .i64 a0_1, .slice A0_2 l0_2.length c0_2] 24 (0, 0)) (blkA BK372.out) hb); have n2_ := Aside0.mk (blk_below (g := gb373) (o := .cells #[.int .i64 0, .int .i64 0, .slice none 0 0] 24 (0, 0)) (blkA BK373.out) hb); have n3_ := Aside0.mk (blk_below (g := gb381) (o := .cells #[.int .i64 t376, .int .i64 t377, u382002] 24 (0, 0)) (blkA BK381.out) hb); have n4_ := Aside0.mk (below_step (belA HB.out) hb); have n5_ := Aside0.mk (hbox); have n6_ := Aside0.mk ((by rw [hg]; exact (below_size (belA HB.out)) : w.heap.size ≤ gb392)); have n7_ := Aside0.mk ((by rw [hg]; exact (below_size (belA HB.out)) : w.heap.size ≤ gb392)); have n8_ := Aside0.mk ((by rw [hg]; exact Nat.ne_of_lt (blk_lt (g := gb372) (o := .cells #[.int .i64 a0_0, .int .i64 a0_1, .slice A0_2 l0_2.length c0_2] 24 (0, 0)) (blkA BK372.out)) : gb372 ≠ gb392)); have n9_ := Aside0.mk ((by rw [hg]; exact Nat.ne_of_gt (blk_lt (g := gb372) (o := .cells #[.int .i64 a0_0, .int .i64 a0_1, .slice A0_2 l0_2.length c0_2] 24 (0, 0)) (blkA BK372.out)) : gb392 ≠ gb372)); have n10_ := Aside0.mk ((by rw [hg]; exact Nat.ne_of_lt (blk_lt (g := gb373) (o := .cells #[.int .i64 0, .int .i64 0, .slice none 0 0] 24 (0, 0)) (blkA BK373.out)) : gb373 ≠ gb392)); have n11_ := Aside0.mk ((by rw [hg]; exact Nat.ne_of_gt (blk_lt (g := gb373) (o := .cells #[.int .i64 0, .int .i64 0, .slice none 0 0] 24 (0, 0)) (blkA BK373.out)) : gb392 ≠ gb373)); have n12_ := Aside0.mk ((by rw [hg]; exact Nat.ne_of_lt (blk_lt (g := gb381) (o := .cells #[.int .i64 t376, .int .i64 t377, u382002] 24 (0, 0)) (blkA BK381.out)) : gb381 ≠ gb392)); have n13_ := Aside0.mk ((by rw [hg]; exact Nat.ne_of_gt (blk_lt (g := gb381) (o := .cells #[.int .i64 t376, .int .i64 t377, u382002] 24 (0, 0)) (blkA BK381.out)) : gb392 ≠ gb381)); clear HO_382002; clear BK372; clear BK373; clear BK381; clear HB; have HO_382002 := n0_; have BK372 := n1_; have BK373 := n2_; have BK381 := n3_; have HB := n4_; have BK392 := n5_; have GW392 := n6_; have GE392 := n7_; have NB372_392 := n8_; have NB392_372 := n9_; have NB373_392 := n10_; have NB392_373 := n11_; have NB381_392 := n12_; have NB392_381 := n13_; clear n0_ n1_ n2_ n3_ n4_ n5_ n6_ n7_ n8_ n9_ n10_ n11_ n12_ n13_; clear hb hbox hg; have hnb73 := NB392_372.out; have hnc73 := NB372_392.out; have hnb74 := NB392_373.out; have hnc74 := NB373_392.out; have hnb75 := NB392_381.out; have hnc75 := NB381_392.out; have hcz76_0 : w72.cell? ⟨gb392, 0, none⟩ = some (.int .i64 0) := (blk_cell BK392.out 0).trans rfl; have hcz76_1 : w72.cell? ⟨gb392, 1, none⟩ = some (.int .i64 0) := (blk_cell BK392.out 1).trans rfl; have hfz76_0 := blk_frozen BK392.out 0; have hfz76_1 := blk_frozen BK392.out 1) | ((with_reducible refine gate_store (t := 45) (p := 19) rfl ?_); refine store_event (t := 45) (p := 19) (v := ?vo_w77) (w1 := ((w72.setCell ⟨gb392, 0, none⟩ (.int .i64 t390)).setCell ⟨gb392, 1, none⟩ (.int .i64 t391))) ?hg ?ho ?hn ?hr ?_; (case ho => rfl); (case hg => rfl); (case hn => rfl); (case hr => first | (go_simp; done) | (go_simp; rfl)); intro w77 hw; have n0_ : Aside0 (Kd.R Kd.bool 4 w77 w.heap.size (fun _ => True) u382002 x382002_5) := ⟨(by rw [hw]; exact (by (with_reducible repeat (first | apply Kd.R_alloc | apply Kd.R_drewN | apply Kd.R_drew)); exact Kd.R_mono (Kd.R_far (p := ⟨gb392, 1, none⟩) (Kd.R_far (p := ⟨gb392, 0, none⟩) (Kd.R_types HO_382002.out BK392.out (by decide)) (fun _ hk => hk.2) (.int .i64 t390)) (fun _ hk => hk.2) (.int .i64 t391)) (fun _ hk => trivial)))⟩; have n1_ : Aside0 (w77.heap[gb372]? = some (.cells #[.int .i64 a0_0, .int .i64 a0_1, .slice A0_2 l0_2.length c0_2] 24 (0, 0))) := ⟨(by rw [hw]; exact (by (with_reducible repeat (first | refine blk_drewN ?_ _ | refine blk_drew ?_ | refine blk_alloc ?_ _)); refine blk_far ?_ NB372_392.out _; (with_reducible repeat (first | refine blk_drewN ?_ _ | refine blk_drew ?_ | refine blk_alloc ?_ _)); refine blk_far ?_ NB372_392.out _; (with_reducible repeat (first | refine blk_drewN ?_ _ | refine blk_drew ?_ | refine blk_alloc ?_ _)); exact BK372.out))⟩; have n2_ : Aside0 (w77.heap[gb373]? = some (.cells #[.int .i64 0, .int .i64 0, .slice none 0 0] 24 (0, 0))) := ⟨(by rw [hw]; exact (by (with_reducible repeat (first | refine blk_drewN ?_ _ | refine blk_drew ?_ | refine blk_alloc ?_ _)); refine blk_far ?_ NB373_392.out _; (with_reducible repeat (first | refine blk_drewN ?_ _ | refine blk_drew ?_ | refine blk_alloc ?_ _)); refine blk_far ?_ NB373_392.out _; (with_reducible repeat (first | refine blk_drewN ?_ _ | refine blk_drew ?_ | refine blk_alloc ?_ _)); exact BK373.out))⟩; have n3_ : Aside0 (w77.heap[gb381]? = some (.cells #[.int .i64 t376, .int .i64 t377, u382002] 24 (0, 0))) := ⟨(by rw [hw]; exact (by (with_reducible repeat (first | refine blk_drewN ?_ _ | refine blk_drew ?_ | refine blk_alloc ?_ _)); refine blk_far ?_ NB381_392.out _; (with_reducible repeat (first | refine blk_drewN ?_ _ | refine blk_drew ?_ | refine blk_alloc ?_ _)); refine blk_far ?_ NB381_392.out _; (with_reducible repeat (first | refine blk_drewN ?_ _ | refine blk_drew ?_ | refine blk_alloc ?_ _)); exact BK381.out))⟩; have n4_ : Aside0 (w77.heap[gb392]? = some (.cells #[.int .i64 t390, .int .i64 t391] 45 (0, 0))) := ⟨(by rw [hw]; exact (by (with_reducible repeat (first | refine blk_drewN ?_ _ | refine blk_drew ?_ | refine blk_alloc ?_ _)); refine blk_put (cs := #[.int .i64 t390, .int .i64 0]) ?_ 1 _ rfl; (with_reducible repeat (first | refine blk_drewN ?_ _ | refine blk_drew ?_ | refine blk_alloc ?_ _)); refine blk_put (cs := #[.int .i64 0, .int .i64 0]) ?_ 0 _ rfl; (with_reducible repeat (first | refine blk_drewN ?_ _ | refine blk_drew ?_ | refine blk_alloc ?_ _)); exact BK392.out))⟩; have n5_ : Aside0 (Below w.heap.size w w77) := ⟨(by rw [hw]; exact (belA HB.out))⟩; clear hw; clear HO_382002; clear BK372; clear BK373; clear BK381; clear BK392; clear HB; have HO_382002 := n0_; have BK372 := n1_; have BK373 := n2_; have BK381 := n3_; have BK392 := n4_; have HB := n5_; clear n0_ n1_ n2_ n3_ n4_ n5_; have hnb78 := NB381_373.out; have hnc78 := NB373_381.out; have hcz79_0 : w77.cell? ⟨gb381, 0, none⟩ = some (.int .i64 t376) := (blk_cell BK381.out 0).trans rfl; have hcz79_1 : w77.cell? ⟨gb381, 1, none⟩ = some (.int .i64 t377) := (blk_cell BK381.out 1).trans rfl; have hcz79_2 : w77.cell? ⟨gb381, 2, none⟩ = some (u382002) := (blk_cell BK381.out 2).trans rfl; have hfz79_0 := blk_frozen BK381.out 0; have hfz79_1 := blk_frozen BK381.out 1; have hfz79_2 := blk_frozen BK381.out 2; have hcz80_0 : w77.cell? ⟨gb392, 0, none⟩ = some (.int .i64 t390) := (blk_cell BK392.out 0).trans rfl; have hcz80_1 : w77.cell? ⟨gb392, 1, none⟩ = some (.int .i64 t391) := (blk_cell BK392.out 1).trans rfl; have hfz80_0 := blk_frozen BK392.out 0; have hfz80_1 := blk_frozen BK392.out 1; have hcz81_0 : w77.cell? ⟨gb372, 0, none⟩ = some (.int .i64 a0_0) := (blk_cell BK372.out 0).trans rfl; have hcz81_1 : w77.cell? ⟨gb372, 1, none⟩ = some (.int .i64 a0_1) := (blk_cell BK372.out 1).trans rfl; have hcz81_2 : w77.cell? ⟨gb372, 2, none⟩ = some (.slice A0_2 l0_2.length c0_2) := (blk_cell BK372.out 2).trans rfl; have hfz81_0 := blk_frozen BK372.out 0; have hfz81_1 := blk_frozen BK372.out 1; have hfz81_2 := blk_frozen BK372.out 2; have p67 : 0 ≤ ((ji64) : Int) := of_decide_eq_true (by first | (with_reducible assumption) | assumption); have q67 : ((ji64) : Int) < ((x382002_5.length : Int) : Int) := of_decide_eq_true (by first | (with_reducible assumption) | assumption); obtain ⟨go67, co67, eo67, gb67, gl67, cl67, HG67⟩ := Kd.R_form HO_382002.out (by omega); (first | cases eo67 | (injection eo67 with ea_ en_ ec_; (first | subst ea_ | (injection ea_ with ea_; subst ea_)); subst ec_; clear en_)); have GB67 := Aside0.mk gb67; have GG67 := Aside0.mk HG67; clear gb67 gl67 HG67; obtain ⟨hx67_0, hf67_0⟩ := Kd.R_celln false HO_382002.out ((ji64) : Int) p67 q67; replace p67 := eq_true p67; replace q67 := eq_true q67; obtain ⟨hy82_, hz82_⟩ := Kd.R_celln false HO_382002.out ((ji64) : Int) (of_decide_eq_true (by first | (with_reducible assumption) | assumption)) (of_decide_eq_true (by first | (with_reducible assumption) | assumption)); have HP82 := Kd.R_putg HO_382002.out ((ji64) : Int) ((Go.bits .and .i64 (ji63) 1) == 1)) | ((with_reducible refine gate_store (t := 4) (p := 115) rfl ?_); refine store_event (t := 4) (p := 115) (v := ?vo_w83) (w1 := (w77.setCell ⟨go67, ((ji64) : Int).toNat, none⟩ (.bool ((Go.bits .and .i64 (ji63) 1) == 1)))) ?hg ?ho ?hn ?hr ?_; (case ho => rfl); (case hg => rfl); (case hn => rfl); (case hr => first | (go_simp; done) | (go_simp; rfl)); intro w83 hw; have hg : w77.grownBy w83 (some go67) := (by rw [hw]; exact HP82.2); have hp_ : Kd.R Kd.bool 4 w83 w.heap.size (fun _ => True) (.slice (some ⟨go67, 0, none⟩) x382002_5.length co67) y393 := (by rw [hw, Ny393.out]; exact HP82.1); clear HP82; have n0_ := Aside0.mk (hp_); have n1_ := Aside0.mk (blk_grown (g := gb372) (o := .cells #[.int .i64 a0_0, .int .i64 a0_1, .slice A0_2 l0_2.length c0_2] 24 (0, 0)) (blkA BK372.out) hg (Kd.R_ne HO_382002.out BK372.out (by decide))); have n2_ := Aside0.mk (blk_grown (g := gb373) (o := .cells #[.int .i64 0, .int .i64 0, .slice none 0 0] 24 (0, 0)) (blkA BK373.out) hg (Kd.R_ne HO_382002.out BK373.out (by decide))); have n3_ := Aside0.mk (blk_grown (g := gb381) (o := .cells #[.int .i64 t376, .int .i64 t377, .slice (some ⟨go67, 0, none⟩) x382002_5.length co67] 24 (0, 0)) (blkA BK381.out) hg (Kd.R_ne HO_382002.out BK381.out (by decide))); have n4_ := Aside0.mk (blk_grown (g := gb392) (o := .cells #[.int .i64 t390, .int .i64 t391] 45 (0, 0)) (blkA BK392.out) hg (Kd.R_ne HO_382002.out BK392.out (by decide))); have n5_ := Aside0.mk ((by rw [hw]; exact below_set (HB.out) GB67.out : Below w.heap.size w w83)); clear HO_382002; clear BK372; clear BK373; clear BK381; clear BK392; clear HB; have HO_382002 := n0_; have BK372 := n1_; have BK373 := n2_; have BK381 := n3_; have BK392 := n4_; have HB := n5_; clear n0_ n1_ n2_ n3_ n4_ n5_; clear hg hw hp_))
                     go_roundg k5
                     case measure => have := HJ5.out; have := HJ15.out; have := HK3.out; have := HK4.out; have := HK5.out; omega
                     case rel => exact ⟨(wrap64 (x18_5 + 1)), (y393), (.slice (some ⟨go67, 0, none⟩) x382002_5.length co67), (by first | rfl | (simp; done) | (simp [*]; done)), H', ⟨by have := HJ5.out; have := HJ15.out; have := HK3.out; have := HK4.out; have := HK5.out; omega⟩, ⟨rowA HO_382002.out⟩, ⟨blkA BK372.out⟩, ⟨blkA BK373.out⟩, ⟨blkA BK381.out⟩, ⟨belA HB.out⟩⟩
                    ·rw [if_neg c66] at H
                     exact absurd H (by simp)
                   ·rw [if_neg c65] at H
                    exact absurd H (by simp)
                  ·rw [if_neg c62] at H
                   exact absurd H (by simp)
                 ·rw [if_neg c59] at H
                  have c59b0 : decide (x18_5 < 18) = false := decide_eq_false c59
                  clear c59
                  have H' := Aside0.mk H
                  clear H
                  go_wp2
                  go_roundg k5
                  case measure => have := HJ5.out; have := HJ15.out; have := HK3.out; have := HK4.out; have := HK5.out; omega
                  case rel => exact ⟨(wrap64 (x15_3 + 1)), (x382002_5), (u382002), (by first | rfl | (simp; done) | (simp [*]; done)), H', ⟨by have := HJ5.out; have := HJ15.out; have := HK3.out; have := HK4.out; have := HK5.out; omega⟩, ⟨rowA HO_382002.out⟩, ⟨blkA BK372.out⟩, ⟨blkA BK373.out⟩, ⟨blkA BK381.out⟩, ⟨belA HB.out⟩⟩
                ·rw [if_neg c58] at H
                 have c58b0 : decide (7 ≤ t374) = false := decide_eq_false c58
                 clear c58
                 have H' := Aside0.mk H
                 clear H
                 go_wp2
                 go_roundg k5
                 case measure => have := HJ5.out; have := HJ15.out; have := HK3.out; have := HK4.out; have := HK5.out; omega
                 case rel => exact ⟨(wrap64 (x15_3 + 1)), (x382002_5), (u382002), (by first | rfl | (simp; done) | (simp [*]; done)), H', ⟨by have := HJ5.out; have := HJ15.out; have := HK3.out; have := HK4.out; have := HK5.out; omega⟩, ⟨rowA HO_382002.out⟩, ⟨blkA BK372.out⟩, ⟨blkA BK373.out⟩, ⟨blkA BK381.out⟩, ⟨belA HB.out⟩⟩
          ·rw [if_neg c32] at H
           have c32b0 : decide (x15_3 < 2) = false := decide_eq_false c32
           clear c32
           simp only [Option.some.injEq, Prod.mk.injEq] at H
           obtain ⟨rfl, rfl, rfl, rfl⟩ := H
           have hnb84 := NB381_372.out
           have hnc84 := NB372_381.out
           have hnb85 := NB381_373.out
           have hnc85 := NB373_381.out
           have hcz86_0 : wr.cell? ⟨gb381, 0, none⟩ = some (.int .i64 t376) := (blk_cell BK381.out 0).trans rfl
           have hcz86_1 : wr.cell? ⟨gb381, 1, none⟩ = some (.int .i64 t377) := (blk_cell BK381.out 1).trans rfl
           have hcz86_2 : wr.cell? ⟨gb381, 2, none⟩ = some (u382002) := (blk_cell BK381.out 2).trans rfl
           have hfz86_0 := blk_frozen BK381.out 0
           have hfz86_1 := blk_frozen BK381.out 1
           have hfz86_2 := blk_frozen BK381.out 2
           have hnb87 := NB373_372.out
           have hnc87 := NB372_373.out
           have hcz88_0 : wr.cell? ⟨gb373, 0, none⟩ = some (.int .i64 0) := (blk_cell BK373.out 0).trans rfl
           have hcz88_1 : wr.cell? ⟨gb373, 1, none⟩ = some (.int .i64 0) := (blk_cell BK373.out 1).trans rfl
           have hcz88_2 : wr.cell? ⟨gb373, 2, none⟩ = some (.slice none 0 0) := (blk_cell BK373.out 2).trans rfl
           have hfz88_0 := blk_frozen BK373.out 0
           have hfz88_1 := blk_frozen BK373.out 1
           have hfz88_2 := blk_frozen BK373.out 2
           obtain ⟨Ao89, co89, eo89⟩ := Kd.R_slice HO_382002.out
           subst eo89
           go_wp2
           refine bodyPost_ret (results_ct rfl _ _ gb373 24 #[.int .i64 t376, .int .i64 t377, .slice Ao89 x382002_3.length co89] (0, 0) _ rfl (by (with_reducible repeat (first | refine blk_drewN ?_ _ | refine blk_drew ?_ | refine blk_alloc ?_ _)); refine blk_put (cs := #[.int .i64 t376, .int .i64 t377, .slice none 0 0]) ?_ 2 _ rfl; (with_reducible repeat (first | refine blk_drewN ?_ _ | refine blk_drew ?_ | refine blk_alloc ?_ _)); refine blk_put (cs := #[.int .i64 t376, .int .i64 0, .slice none 0 0]) ?_ 1 _ rfl; (with_reducible repeat (first | refine blk_drewN ?_ _ | refine blk_drew ?_ | refine blk_alloc ?_ _)); refine blk_put (cs := #[.int .i64 0, .int .i64 0, .slice none 0 0]) ?_ 0 _ rfl; (with_reducible repeat (first | refine blk_drewN ?_ _ | refine blk_drew ?_ | refine blk_alloc ?_ _)); exact BK373.out) Try.underlying24 rfl (by kernel_rfl)) rfl ?_
           exact ⟨_, by first | rfl | (simp [errW_none, errW_some] <;> rfl) | (simp [*, errW_none, errW_some] <;> rfl), by (with_reducible repeat (first | apply Kd.R_alloc | apply Kd.R_drewN | apply Kd.R_drew)); exact Kd.R_mono (Kd.R_far (p := ⟨gb373, 2, none⟩) (Kd.R_far (p := ⟨gb373, 1, none⟩) (Kd.R_far (p := ⟨gb373, 0, none⟩) (Kd.R_types HO_382002.out BK373.out (by decide)) (fun _ hk => hk.2) (.int .i64 t376)) (fun _ hk => hk.2) (.int .i64 t377)) (fun _ hk => hk.2) (.slice Ao89 x382002_3.length co89)) (fun _ hk => trivial), belA HB.out⟩
 ·rw [if_neg c5] at H
  have c5b0 : (t375 == 0) = false := beq_eq_false_iff_ne.mpr c5
  have c5b1 : (t375 != 0) = true := bne_iff_ne.mpr c5
  simp only [Option.some.injEq, Prod.mk.injEq] at H
  obtain ⟨rfl, rfl, rfl, rfl⟩ := H
  go_enter Try.func18, Try.ntmps18
  go_wp2_with (first | ((with_reducible refine gate_dst (N := 3) rfl ?_); refine box_event ?hg (N := 3) ?hd (cs := #[.int .i64 a0_0, .int .i64 a0_1, .slice A0_2 l0_2.length c0_2]) (t := 24) ?hr ?_; (case hd => rfl); (case hg => rfl); (case hr => first | (go_simp; done) | (go_simp; rfl)); intro gb372 hg w90 hbox hb; have n0_ := Aside0.mk (below_step (belA HB.out) hb); have n1_ := Aside0.mk (hbox); have n2_ := Aside0.mk ((by rw [hg]; exact (below_size (belA HB.out)) : w.heap.size ≤ gb372)); have n3_ := Aside0.mk ((by rw [hg]; exact (below_size (belA HB.out)) : w.heap.size ≤ gb372)); clear HB; have HB := n0_; have BK372 := n1_; have GW372 := n2_; have GE372 := n3_; clear n0_ n1_ n2_ n3_; clear hb hbox hg) | ((with_reducible refine gate_dst (N := 6) rfl ?_); refine box_event ?hg (N := 6) ?hd (cs := #[.int .i64 0, .int .i64 0, .slice none 0 0]) (t := 24) ?hr ?_; (case hd => rfl); (case hg => rfl); (case hr => first | (go_simp; done) | (go_simp; rfl)); intro gb373 hg w91 hbox hb; have n0_ := Aside0.mk (blk_below (g := gb372) (o := .cells #[.int .i64 a0_0, .int .i64 a0_1, .slice A0_2 l0_2.length c0_2] 24 (0, 0)) (blkA BK372.out) hb); have n1_ := Aside0.mk (below_step (belA HB.out) hb); have n2_ := Aside0.mk (hbox); have n3_ := Aside0.mk ((by rw [hg]; exact (below_size (belA HB.out)) : w.heap.size ≤ gb373)); have n4_ := Aside0.mk ((by rw [hg]; exact (below_size (belA HB.out)) : w.heap.size ≤ gb373)); have n5_ := Aside0.mk ((by rw [hg]; exact Nat.ne_of_lt (blk_lt (g := gb372) (o := .cells #[.int .i64 a0_0, .int .i64 a0_1, .slice A0_2 l0_2.length c0_2] 24 (0, 0)) (blkA BK372.out)) : gb372 ≠ gb373)); have n6_ := Aside0.mk ((by rw [hg]; exact Nat.ne_of_gt (blk_lt (g := gb372) (o := .cells #[.int .i64 a0_0, .int .i64 a0_1, .slice A0_2 l0_2.length c0_2] 24 (0, 0)) (blkA BK372.out)) : gb373 ≠ gb372)); clear BK372; clear HB; have BK372 := n0_; have HB := n1_; have BK373 := n2_; have GW373 := n3_; have GE373 := n4_; have NB372_373 := n5_; have NB373_372 := n6_; clear n0_ n1_ n2_ n3_ n4_ n5_ n6_; clear hb hbox hg; have hnb92 := NB372_373.out; have hnc92 := NB373_372.out; have hcz93_0 : w91.cell? ⟨gb372, 0, none⟩ = some (.int .i64 a0_0) := (blk_cell BK372.out 0).trans rfl; have hcz93_1 : w91.cell? ⟨gb372, 1, none⟩ = some (.int .i64 a0_1) := (blk_cell BK372.out 1).trans rfl; have hcz93_2 : w91.cell? ⟨gb372, 2, none⟩ = some (.slice A0_2 l0_2.length c0_2) := (blk_cell BK372.out 2).trans rfl; have hfz93_0 := blk_frozen BK372.out 0; have hfz93_1 := blk_frozen BK372.out 1; have hfz93_2 := blk_frozen BK372.out 2) | ((with_reducible refine gate_callee (f := 35) rfl ?_); refine goesL_ (some 22) rfl rfl Try.func35 (by kernel_rfl) rfl #[.agg #[.int .i64 a0_0, .int .i64 a0_1, .slice A0_2 l0_2.length c0_2]] rfl (by (try simp only [List.map_toArray, List.map_cons, List.map_nil]); first | done | rfl | (simp only [List.length_drop, List.length_take]; rfl)) ?_; (with_reducible refine (barscanref20_Version.calls a0_0 a0_1 _ _ l0_2 t374 t375 _ ?side1 ?side2 A4.out).mono ?_); (case side1 => repeat (first | exact (Kd.C_below HR0_2.out HB.out) | (with_reducible refine Kd.C_alloc ?_ _) | (with_reducible refine Kd.C_drewN ?_ _) | (with_reducible refine Kd.C_drew ?_))); (case side2 => exact HC0_2.out); rintro e w94 ⟨rfl, hb⟩; refine ⟨_, rfl, ?_⟩; have n0_ := Aside0.mk (blk_below (g := gb372) (o := .cells #[.int .i64 a0_0, .int .i64 a0_1, .slice A0_2 l0_2.length c0_2] 24 (0, 0)) (blkA BK372.out) hb); have n1_ := Aside0.mk (blk_below (g := gb373) (o := .cells #[.int .i64 0, .int .i64 0, .slice none 0 0] 24 (0, 0)) (blkA BK373.out) hb); have n2_ := Aside0.mk (below_step (belA HB.out) hb); clear BK372; clear BK373; clear HB; have BK372 := n0_; have BK373 := n1_; have HB := n2_; clear n0_ n1_ n2_; (try clear hb); (try clear hb2); (try clear hk); (try clear hi); have hcz95_0 : w94.cell? ⟨gb373, 0, none⟩ = some (.int .i64 0) := (blk_cell BK373.out 0).trans rfl; have hcz95_1 : w94.cell? ⟨gb373, 1, none⟩ = some (.int .i64 0) := (blk_cell BK373.out 1).trans rfl; have hcz95_2 : w94.cell? ⟨gb373, 2, none⟩ = some (.slice none 0 0) := (blk_cell BK373.out 2).trans rfl; have hfz95_0 := blk_frozen BK373.out 0; have hfz95_1 := blk_frozen BK373.out 1; have hfz95_2 := blk_frozen BK373.out 2))
  refine bodyPost_ret (results_ct rfl _ _ gb373 24 #[.int .i64 0, .int .i64 0, .slice none 0 0] (0, 0) _ rfl (by (with_reducible repeat (first | refine blk_drewN ?_ _ | refine blk_drew ?_ | refine blk_alloc ?_ _)); refine blk_put (cs := #[.int .i64 0, .int .i64 0, .slice none 0 0]) ?_ 2 _ rfl; (with_reducible repeat (first | refine blk_drewN ?_ _ | refine blk_drew ?_ | refine blk_alloc ?_ _)); refine blk_put (cs := #[.int .i64 0, .int .i64 0, .slice none 0 0]) ?_ 1 _ rfl; (with_reducible repeat (first | refine blk_drewN ?_ _ | refine blk_drew ?_ | refine blk_alloc ?_ _)); refine blk_put (cs := #[.int .i64 0, .int .i64 0, .slice none 0 0]) ?_ 0 _ rfl; (with_reducible repeat (first | refine blk_drewN ?_ _ | refine blk_drew ?_ | refine blk_alloc ?_ _)); exact BK373.out) Try.underlying24 rfl (by kernel_rfl)) rfl ?_
  exact ⟨_, by first | rfl | (simp [errW_none, errW_some] <;> rfl) | (simp [*, errW_none, errW_some] <;> rfl), by first | exact Kd.R_nil _ _ _ _ _ | exact Kd.N_nil _ _ _ _ _ | exact Kd.V_nil _ _ _ _ _ | exact Kd.Q_nil _ _ _ _ _ | exact Kd.S_nil _ _ _ _ _, belA HB.out⟩

end Go.Proofs.Ytbbnagjfjgkgjaa.L
