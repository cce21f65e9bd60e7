-- Written by a program of this session out of the kit's print of the loaded functions (see wip/).
import Derived.Test.YtbbnagjfjgkgjaaKALx0
import Derived.Test.YtbbnagjfjgkgjaaKALx2
import Derived.Test.YtbbnagjfjgkgjaaKALx4
namespace Go.Proofs.Ytbbnagjfjgkgjaa.L
open Go.RowKit Go.Proofs.YtbbnagjfjgkgjaaW.PrintWords Go.Proofs.YtbbnagjfjgkgjaaW.PrintLast Go.Proofs.YtbbnagjfjgkgjaaW.PrintMore
attribute [local go_sem] max2_int min2_int max_two min_two max_three min_three max_four min_four   -- for this text's walks alone
set_option linter.unusedVariables false
set_option linter.unusedSimpArgs false

mutual
def qrlayout_frame_blank.l0 : Nat → Int → Int → Int → Int → List Int → Int → Int → List Bool → Option (Int × Int × List Bool)
 | 0, _, _, _, _, _, _, _, _ => none
 | k + 1, x12, x13, x135000, x135001, x135002, x137000, x137001, x137002 => if x13 < x12 then (qrlayout_frame_blank.l1 k x13 x12 x13 x135001 0 x135000 x135001 x135002 x137000 x137001 x137002) else (some (x137000, x137001, x137002))
def qrlayout_frame_blank.l1 : Nat → Int → Int → Int → Int → Int → Int → Int → List Int → Int → Int → List Bool → Option (Int × Int × List Bool)
 | 0, _, _, _, _, _, _, _, _, _, _, _ => none
 | k + 1, x4, x12, x13, x17, x18, x135000, x135001, x135002, x137000, x137001, x137002 => if x18 < x17 then ((qrlayout_frame_dark.f k x135000 x135001 x135002 x18 x4).bind fun t137 => (if x137002.length < 140737488355328 then (qrlayout_frame_blank.l1 k x4 x12 x13 x17 (wrap64 (x18 + 1)) x135000 x135001 x135002 x137000 x137001 (x137002 ++ [t137])) else (none))) else (qrlayout_frame_blank.l0 k x12 (wrap64 (x13 + 1)) x135000 x135001 x135002 x137000 x137001 x137002)
end
def qrlayout_frame_blank.f (k : Nat) (a0_0 : Int) (a0_1 : Int) (l0_2 : List Int) : Option (Int × Int × List Bool) := qrlayout_frame_blank.l0 k a0_1 0 a0_0 a0_1 l0_2 a0_1 a0_1 ([] : List Bool)
def qrlayout_frame_blank.T8 : Bool × List (List Nat × List Nat) := (true, [([], []), ([0], [0]), ([], []), ([], []), ([], []), ([2, 3, 4], [2, 3, 4]), ([5], [5]), ([1, 6, 5], [1, 6]), ([0, 1, 2, 3, 4, 5, 6, 7], []), ([8, 7, 7, 0, 1, 2, 3, 4, 5, 6, 7], [7, 8])])
def qrlayout_frame_blank.B8 : List Nat := [0, 1, 0, 0, 0, 28, 60, 127, 255, 511]
theorem qrlayout_frame_blank.tab8 : rtab .any (opsOf Try.f37 8) = qrlayout_frame_blank.T8 := by kernel_rfl
theorem qrlayout_frame_blank.bits8 : waitsOk qrlayout_frame_blank.T8.2 qrlayout_frame_blank.B8 = true := by kernel_rfl
set_option maxHeartbeats 8000000 in
set_option maxRecDepth 100000 in
theorem qrlayout_frame_blank.calls (k : Nat) (a0_0 : Int) (a0_1 : Int) (A0_2 : Option Addr) (c0_2 : Nat) (l0_2 : List Int) (r1 : Int) (r2 : Int) (r3 : List Bool) (w : World) (hr0_2 : Kd.C (Kd.int .i64) w A0_2 l0_2.length l0_2) (hc0_2 : l0_2.length ≤ c0_2) (h : qrlayout_frame_blank.f k a0_0 a0_1 l0_2 = some (r1, r2, r3)) :
  Calls Try.prog 37 #[.agg #[.int .i64 a0_0, .int .i64 a0_1, .slice A0_2 l0_2.length c0_2]] w fun e w' => ∃ v2_ : Value, e = .returned (.agg #[.int .i64 r1, .int .i64 r2, v2_]) ∧ Kd.R Kd.bool 4 w' w.heap.size (fun _ => True) v2_ r3 ∧ Below w.heap.size w w' := by
 have hu69 := Try.underlying69
 have hu24 := Try.underlying24
 have HR0_2 := Aside0.mk hr0_2
 have HC0_2 := Aside0.mk hc0_2
 clear hr0_2 hc0_2
 have HB := Aside0.mk (Below.refl w.heap.size w)
 have H : (qrlayout_frame_blank.l0 k a0_1 0 a0_0 a0_1 l0_2 a0_1 a0_1 ([] : List Bool)) = some (r1, r2, r3) := h
 clear h
 have H' := Aside0.mk H
 clear H
 go_enter Try.func37, Try.ntmps37
 go_wp2_with (first | ((with_reducible refine gate_dst (N := 1) rfl ?_); refine boxE (N := 1) (cs := #[.int .i64 a0_0, .int .i64 a0_1, .slice A0_2 l0_2.length c0_2]) (t := 69) ?_; intro gb134 hg w2 hbox hb; have BK134 := Aside0.mk (hbox); have GW134 := Aside0.mk ((szA hg HB.out : w.heap.size ≤ gb134)); have GE134 := Aside0.mk ((szA hg HB.out : w.heap.size ≤ gb134)); replace HB := Aside0.mk (below_step (belA HB.out) hb); clear hb hbox hg) | ((with_reducible refine gate_dst (N := 2) rfl ?_); refine boxE (N := 2) (cs := #[.int .i64 0, .int .i64 0, .slice none 0 0]) (t := 24) ?_; intro gb135 hg w3 hbox hb; have BK135 := Aside0.mk (hbox); have GW135 := Aside0.mk ((szA hg HB.out : w.heap.size ≤ gb135)); have GE135 := Aside0.mk ((szA hg HB.out : w.heap.size ≤ gb135)); have NB134_135 := Aside0.mk ((neL hg BK134.out : gb134 ≠ gb135)); have NB135_134 := Aside0.mk ((neG hg BK134.out : gb135 ≠ gb134)); replace BK134 := Aside0.mk (blk_below (g := gb134) (o := .cells #[.int .i64 a0_0, .int .i64 a0_1, .slice A0_2 l0_2.length c0_2] 69 (0, 0)) (blkA BK134.out) hb); replace HB := Aside0.mk (below_step (belA HB.out) hb); clear hb hbox hg; have hnb4 := NB134_135.out; have hnc4 := NB135_134.out; obtain ⟨hcz5_0, hcz5_1, hcz5_2, hfz5_0, hfz5_1, hfz5_2⟩ := bk3 BK134.out) | ((with_reducible refine gate_dst (N := 3) rfl ?_); refine boxE (N := 3) (cs := #[.int .i64 0, .int .i64 0, .slice none 0 0]) (t := 24) ?_; intro gb136 hg w6 hbox hb; have BK136 := Aside0.mk (hbox); have GW136 := Aside0.mk ((szA hg HB.out : w.heap.size ≤ gb136)); have GE136 := Aside0.mk ((szA hg HB.out : w.heap.size ≤ gb136)); have NB134_136 := Aside0.mk ((neL hg BK134.out : gb134 ≠ gb136)); have NB136_134 := Aside0.mk ((neG hg BK134.out : gb136 ≠ gb134)); have NB135_136 := Aside0.mk ((neL hg BK135.out : gb135 ≠ gb136)); have NB136_135 := Aside0.mk ((neG hg BK135.out : gb136 ≠ gb135)); replace BK134 := Aside0.mk (blk_below (g := gb134) (o := .cells #[.int .i64 a0_0, .int .i64 a0_1, .slice A0_2 l0_2.length c0_2] 69 (0, 0)) (blkA BK134.out) hb); replace BK135 := Aside0.mk (blk_below (g := gb135) (o := .cells #[.int .i64 0, .int .i64 0, .slice none 0 0] 24 (0, 0)) (blkA BK135.out) hb); replace HB := Aside0.mk (below_step (belA HB.out) hb); clear hb hbox hg; have hnb7 := NB136_134.out; have hnc7 := NB134_136.out; have hnb8 := NB136_135.out; have hnc8 := NB135_136.out; obtain ⟨hcz9_0, hcz9_1, hcz9_2, hfz9_0, hfz9_1, hfz9_2⟩ := bk3 BK136.out; obtain ⟨hcz10_0, hcz10_1, hcz10_2, hfz10_0, hfz10_1, hfz10_2⟩ := bk3 BK134.out))
 go_loopg [13] k (fun kq v13 w' => ∃ (x13_1 : Int) (x137002_1 : List Bool) (u137002 : Value), v13 = .int .i64 x13_1 ∧ Aside0 (qrlayout_frame_blank.l0 kq a0_1 x13_1 a0_0 a0_1 l0_2 a0_1 a0_1 x137002_1 = some (r1, r2, r3)) ∧ Aside0 (kq ≤ k) ∧ Aside0 (Kd.R Kd.bool 4 w' w.heap.size (fun _ => True) u137002 x137002_1) ∧ Aside0 (w'.heap[gb134]? = some (.cells #[.int .i64 a0_0, .int .i64 a0_1, (.slice A0_2 l0_2.length c0_2)] 69 (0, 0))) ∧ Aside0 (w'.heap[gb135]? = some (.cells #[.int .i64 0, .int .i64 0, (.slice none 0 0)] 24 (0, 0))) ∧ Aside0 (w'.heap[gb136]? = some (.cells #[.int .i64 a0_1, .int .i64 a0_1, u137002] 24 (0, 0))) ∧ Aside0 (Below w.heap.size w w'))
 case atStart => exact ⟨(0), (([] : List Bool)), (.slice none 0 0), smpA, H', ⟨Nat.le_refl _⟩, ⟨nilA⟩, ⟨blkB BK134.out⟩, ⟨blkB BK135.out⟩, ⟨blkB BK136.out⟩, ⟨belA HB.out⟩⟩
 case round =>
  clear H'
  try clear p2
  try clear c3
  try clear c4
  try clear c7
  try clear c8
  try clear hcz10_0
  try clear hcz10_1
  try clear hcz10_2
  try clear hcz5_0
  try clear hcz5_1
  try clear hcz5_2
  try clear hcz9_0
  try clear hcz9_1
  try clear hcz9_2
  try clear hfz10_0
  try clear hfz10_1
  try clear hfz10_2
  try clear hfz5_0
  try clear hfz5_1
  try clear hfz5_2
  try clear hfz9_0
  try clear hfz9_1
  try clear hfz9_2
  obtain ⟨x13_1, x137002_1, u137002, rfl, HA, HK1, HO_137002, BK134, BK135, BK136, HB⟩ := hrel
  cases gk with
  | zero => exact absurd HA.out (by simp [qrlayout_frame_blank.l0])
  | succ k1 =>
   have H := HA.out
   clear HA
   simp only [qrlayout_frame_blank.l0] at H
   by_cases c11 : x13_1 < a0_1
   ·rw [if_pos c11] at H
    have c11b0 : decide (x13_1 < a0_1) = true := decide_eq_true c11
    clear c11
    have H' := Aside0.mk H
    clear H
    have hnb12 := NB134_135.out
    have hnc12 := NB135_134.out
    have hnb13 := NB134_136.out
    have hnc13 := NB136_134.out
    obtain ⟨hcz14_0, hcz14_1, hcz14_2, hfz14_0, hfz14_1, hfz14_2⟩ := bk3 BK134.out
    go_wp2
    go_loopg [18] k1 (fun kq v18 w' => ∃ (x18_2 : Int) (x137002_2 : List Bool) (u137002 : Value), v18 = .int .i64 x18_2 ∧ Aside0 (qrlayout_frame_blank.l1 kq x13_1 a0_1 x13_1 a0_1 x18_2 a0_0 a0_1 l0_2 a0_1 a0_1 x137002_2 = some (r1, r2, r3)) ∧ Aside0 (kq ≤ k1) ∧ Aside0 (Kd.R Kd.bool 4 w' w.heap.size (fun _ => True) u137002 x137002_2) ∧ Aside0 (w'.heap[gb134]? = some (.cells #[.int .i64 a0_0, .int .i64 a0_1, (.slice A0_2 l0_2.length c0_2)] 69 (0, 0))) ∧ Aside0 (w'.heap[gb135]? = some (.cells #[.int .i64 0, .int .i64 0, (.slice none 0 0)] 24 (0, 0))) ∧ Aside0 (w'.heap[gb136]? = some (.cells #[.int .i64 a0_1, .int .i64 a0_1, u137002] 24 (0, 0))) ∧ Aside0 (Below w.heap.size w w'))
    case atStart => exact ⟨(0), (x137002_1), (u137002), smpA, H', ⟨Nat.le_refl _⟩, ⟨rowA HO_137002.out⟩, ⟨blkA BK134.out⟩, ⟨blkA BK135.out⟩, ⟨blkA BK136.out⟩, ⟨belA HB.out⟩⟩
    case round =>
     clear H'
     try clear c1
     try clear p2
     try clear c3
     try clear c4
     try clear c7
     try clear c8
     try clear c11
     try clear c11b0
     try clear c12
     try clear c13
     try clear hcz10_0
     try clear hcz10_1
     try clear hcz10_2
     try clear hcz14_0
     try clear hcz14_1
     try clear hcz14_2
     try clear hcz5_0
     try clear hcz5_1
     try clear hcz5_2
     try clear hcz9_0
     try clear hcz9_1
     try clear hcz9_2
     try clear hfz10_0
     try clear hfz10_1
     try clear hfz10_2
     try clear hfz14_0
     try clear hfz14_1
     try clear hfz14_2
     try clear hfz5_0
     try clear hfz5_1
     try clear hfz5_2
     try clear hfz9_0
     try clear hfz9_1
     try clear hfz9_2
     try clear p2
     obtain ⟨x18_2, x137002_2, u137002, rfl, HA, HK2, HO_137002, BK134, BK135, BK136, HB⟩ := hrel
     cases gk with
     | zero => exact absurd HA.out (by simp [qrlayout_frame_blank.l1])
     | succ k2 =>
      have H := HA.out
      clear HA
      simp only [qrlayout_frame_blank.l1] at H
      by_cases c15 : x18_2 < a0_1
      ·rw [if_pos c15] at H
       have c15b0 : decide (x18_2 < a0_1) = true := decide_eq_true c15
       clear c15
       replace H := Option.bind_eq_some_iff.mp H
       obtain ⟨t137, A160, H⟩ := H
       replace H : (if x137002_2.length < 140737488355328 then (qrlayout_frame_blank.l1 k2 x13_1 a0_1 x13_1 a0_1 (wrap64 (x18_2 + 1)) a0_0 a0_1 l0_2 a0_1 a0_1 (x137002_2 ++ [t137])) else (none)) = some (r1, r2, r3) := H
       have A16 := Aside0.mk A160
       clear A160
       by_cases c17 : x137002_2.length < 140737488355328
       ·rw [if_pos c17] at H
        have LMc17 := Aside0.mk c17
        clear c17
        obtain ⟨y138, hy138⟩ : ∃ y_ : List Bool, y_ = (x137002_2 ++ [t137]) := ⟨_, rfl⟩
        replace H : (qrlayout_frame_blank.l1 k2 x13_1 a0_1 x13_1 a0_1 (wrap64 (x18_2 + 1)) a0_0 a0_1 l0_2 a0_1 a0_1 y138) = some (r1, r2, r3) := by first | (rw [hy138]; with_reducible exact H) | (have H2_ := (Option.bind_some _ _).symm.trans H; rw [hy138]; with_reducible exact H2_) | (have H2_ := (Option.bind_some _ _).symm.trans H; with_reducible exact H2_) | with_reducible exact H | (rw [hy138]; exact H) | exact H
        have Ny138 := Aside0.mk hy138
        clear hy138
        have H' := Aside0.mk H
        clear H
        try go_wp2
        have n0_ := Aside0.mk (Kd.R_drew HO_137002.out)
        have n1_ := Aside0.mk (blk_drew BK134.out)
        have n2_ := Aside0.mk (blk_drew BK135.out)
        have n3_ := Aside0.mk (blk_drew BK136.out)
        have n4_ := Aside0.mk (below_drew1 HB.out)
        clear HO_137002
        clear BK134
        clear BK135
        clear BK136
        clear HB
        have HO_137002 := n0_
        have BK134 := n1_
        have BK135 := n2_
        have BK136 := n3_
        have HB := n4_
        clear n0_ n1_ n2_ n3_ n4_
        refine start_ (n := 10) (S := fun w' => w'.cell? ⟨gb136, 0, none⟩ = some (.int .i64 a0_1) ∧ w'.cell? ⟨gb136, 1, none⟩ = some (.int .i64 a0_1) ∧ w'.cell? ⟨gb136, 2, none⟩ = some (u137002) ∧ w'.cell? ⟨gb134, 0, none⟩ = some (.int .i64 a0_0) ∧ w'.cell? ⟨gb134, 1, none⟩ = some (.int .i64 a0_1) ∧ w'.cell? ⟨gb134, 2, none⟩ = some (.slice A0_2 l0_2.length c0_2)) (ds := [9]) #[false, false, false, false, false, false, false, false, false, false] (by kernel_rfl) rfl rfl ⟨(blk_cell BK136.out 0).trans rfl, (blk_cell BK136.out 1).trans rfl, (blk_cell BK136.out 2).trans rfl, (blk_cell BK134.out 0).trans rfl, (blk_cell BK134.out 1).trans rfl, (blk_cell BK134.out 2).trans rfl⟩ (fun hHeld => ?_); refine with_tabW qrlayout_frame_blank.tab8 qrlayout_frame_blank.bits8 (fun HT_ HW_ => ?_)
        generalize wr.drew = w18 at HO_137002 BK134 BK135 BK136 HB hHeld ⊢
        refine pure_ (i := 0) (N := some 21) (v := ?_) (a' := ?_) #[true, false, false, false, false, false, false, false, false, false] rfl rfl (any_of HT_.out (by kernel_rfl)) (fun _ _ _ h => h) (Or.inl ⟨by rfl, ?_⟩) ?_ ?_
        rotate_left
        ·intro w'
         go_simp
         with_reducible rfl
        rotate_left
        ·simp only [Act.put, List.setIfInBounds_toArray, List.set_cons_zero, List.set_cons_succ, i64_w, i32_w]
         rfl
        refine pure_ (i := 3) (N := some 24) (v := ?_) (a' := ?_) #[true, false, false, true, false, false, false, false, false, false] rfl rfl (any_of HT_.out (by kernel_rfl)) (fun _ _ _ h => h) (Or.inl ⟨by rfl, ?_⟩) ?_ ?_
        rotate_left
        ·intro w'
         go_simp
         with_reducible rfl
        rotate_left
        ·simp only [Act.put, List.setIfInBounds_toArray, List.set_cons_zero, List.set_cons_succ, i64_w, i32_w]
         rfl
        refine pure_ (i := 4) (N := some 25) (v := ?_) (a' := ?_) #[true, false, false, true, true, false, false, false, false, false] rfl rfl (any_of HT_.out (by kernel_rfl)) (fun _ _ _ h => h) (Or.inl ⟨by rfl, ?_⟩) ?_ ?_
        rotate_left
        ·intro w'
         go_simp
         with_reducible rfl
        rotate_left
        ·simp only [Act.put, List.setIfInBounds_toArray, List.set_cons_zero, List.set_cons_succ, i64_w, i32_w]
         rfl
        refine take_ (i := 1) (N := some 22) (v := ?_) (a' := ?_) #[true, true, false, true, true, false, false, false, false, false] rfl rfl (take_ofW HT_.out HW_.out (by kernel_rfl)) (fun _ _ _ h => h) (Or.inl ⟨by rfl, ?_⟩) hHeld ?_ ?_
        rotate_left
        ·rintro w' ⟨s0, s1, s2, s3, s4, s5⟩
         go_simp
         with_reducible rfl
        rotate_left
        ·simp only [Act.put, List.setIfInBounds_toArray, List.set_cons_zero, List.set_cons_succ, i64_w, i32_w]
         rfl
        refine take_ (i := 2) (N := some 23) (v := ?_) (a' := ?_) #[true, true, true, true, true, false, false, false, false, false] rfl rfl (take_ofW HT_.out HW_.out (by kernel_rfl)) (fun _ _ _ h => h) (Or.inl ⟨by rfl, ?_⟩) hHeld ?_ ?_
        rotate_left
        ·rintro w' ⟨s0, s1, s2, s3, s4, s5⟩
         go_simp
         with_reducible rfl
        rotate_left
        ·simp only [Act.put, List.setIfInBounds_toArray, List.set_cons_zero, List.set_cons_succ, i64_w, i32_w]
         rfl
        refine one_ (i := 5) (N := some 26) #[true, true, true, true, true, true, false, false, false, false] rfl rfl (one_of HT_.out (by kernel_rfl)) (by decide) (fun K hK => ?_)
        refine goes_ Try.func42 (by kernel_rfl) rfl #[.agg #[.int .i64 a0_0, .int .i64 a0_1, .slice A0_2 l0_2.length c0_2], .int .i64 x18_2, .int .i64 x13_1] (by rfl) rfl rfl argA ?_
        with_reducible refine (qrlayout_frame_dark.calls k2 a0_0 a0_1 _ _ l0_2 x18_2 x13_1 t137 _ ?side1 ?side2 A16.out).mono ?_
        (case side1 => exact lowA (Kd.C_below HR0_2.out HB.out))
        (case side2 => exact HC0_2.out)
        rintro e w19 ⟨rfl, hb⟩
        refine ⟨_, rfl, ?_⟩
        have n0_ := Aside0.mk (Kd.R_below (rowA HO_137002.out) hb)
        have n1_ := Aside0.mk (blk_below (g := gb134) (o := .cells #[.int .i64 a0_0, .int .i64 a0_1, .slice A0_2 l0_2.length c0_2] 69 (0, 0)) (blkA BK134.out) hb)
        have n2_ := Aside0.mk (blk_below (g := gb135) (o := .cells #[.int .i64 0, .int .i64 0, .slice none 0 0] 24 (0, 0)) (blkA BK135.out) hb)
        have n3_ := Aside0.mk (blk_below (g := gb136) (o := .cells #[.int .i64 a0_1, .int .i64 a0_1, u137002] 24 (0, 0)) (blkA BK136.out) hb)
        have n4_ := Aside0.mk (below_step (belA HB.out) hb)
        clear HO_137002
        clear BK134
        clear BK135
        clear BK136
        clear HB
        have HO_137002 := n0_
        have BK134 := n1_
        have BK135 := n2_
        have BK136 := n3_
        have HB := n4_
        clear n0_ n1_ n2_ n3_ n4_
        (try clear hb)
        (try clear hb2)
        (try clear hk)
        (try clear hi)
        refine hK.out _ _ ⟨(blk_cell BK136.out 0).trans rfl, (blk_cell BK136.out 1).trans rfl, (blk_cell BK136.out 2).trans rfl, (blk_cell BK134.out 0).trans rfl, (blk_cell BK134.out 1).trans rfl, (blk_cell BK134.out 2).trans rfl⟩ (fun hHeld => ?_)
        clear hK K
        refine norm_ (a' := ?_) ?_ ?_
        rotate_left
        ·show Act.put _ (some 26) _ = _
         simp only [Act.put, List.setIfInBounds_toArray, List.set_cons_zero, List.set_cons_succ, i64_w, i32_w]
         rfl
        refine one_ (i := 6) (N := some 27) #[true, true, true, true, true, true, true, false, false, false] rfl rfl (one_of HT_.out (by kernel_rfl)) (by decide) (fun K hK => ?_)
        refine value_ (w1 := ?_) (v := ?_) (by rfl) rfl ?_ ?_
        rotate_left 2
        ·go_simp
         constructor
         ·rfl
         ·rfl
        refine hK.out _ _ ⟨(blk_cell (blk_alloc BK136.out _) 0).trans rfl, (blk_cell (blk_alloc BK136.out _) 1).trans rfl, (blk_cell (blk_alloc BK136.out _) 2).trans rfl, (blk_cell (blk_alloc BK134.out _) 0).trans rfl, (blk_cell (blk_alloc BK134.out _) 1).trans rfl, (blk_cell (blk_alloc BK134.out _) 2).trans rfl⟩ (fun hHeld => ?_)
        clear hK K
        refine norm_ (a' := ?_) ?_ ?_
        rotate_left
        ·show Act.put _ (some 27) _ = _
         simp only [Act.put, List.setIfInBounds_toArray, List.set_cons_zero, List.set_cons_succ, i64_w, i32_w]
         rfl
        refine one_ (i := 7) (N := some 28) #[true, true, true, true, true, true, true, true, false, false] rfl rfl (one_of HT_.out (by kernel_rfl)) (by decide) (fun K hK => ?_)
        refine Kd.R_append_step Kd.bool (w0 := w) w.heap.size (by rfl) (.tmp 22) (.tmp 27) 22 4 (.bool false) 1 rfl Try.underlying22 info4 rfl (by decide) (by omega) u137002 x137002_2 t137 [.bool t137] (fun _ => True) (fun _ => False) rfl rfl ?aP (fun _ hk => hk.elim) ?aF ?aO ?aB ?aS ?aL ?_
        (case aP => exact rfl)
        (case aB => exact (belA HB.out))
        (case aF => exact (fun _ _ => trivial))
        (case aO => exact (rowA HO_137002.out))
        (case aS => exact (below_size (belA HB.out)))
        (case aL => have := LMc17.out; omega)
        intro v139 w20 ho hb hg hat
        rw [← Ny138.out] at ho
        have n0_ := Aside0.mk (blk_grown (g := gb134) (o := .cells #[.int .i64 a0_0, .int .i64 a0_1, .slice A0_2 l0_2.length c0_2] 69 (0, 0)) (blkA BK134.out) hg (Kd.R_ne HO_137002.out BK134.out (by decide)))
        have n1_ := Aside0.mk (blk_grown (g := gb135) (o := .cells #[.int .i64 0, .int .i64 0, .slice none 0 0] 24 (0, 0)) (blkA BK135.out) hg (Kd.R_ne HO_137002.out BK135.out (by decide)))
        have n2_ := Aside0.mk (blk_grown (g := gb136) (o := .cells #[.int .i64 a0_1, .int .i64 a0_1, u137002] 24 (0, 0)) (blkA BK136.out) hg (Kd.R_ne HO_137002.out BK136.out (by decide)))
        have n3_ := Aside0.mk (hb)
        have n4_ := Aside0.mk (ho)
        clear BK134
        clear BK135
        clear BK136
        clear HB
        clear HO_137002
        have BK134 := n0_
        have BK135 := n1_
        have BK136 := n2_
        have HB := n3_
        have HO140 := n4_
        clear n0_ n1_ n2_ n3_ n4_
        clear ho hb hg hat
        obtain ⟨Ao21, co21, eo21⟩ := Kd.R_slice HO140.out
        (first | subst eo21 | (injection eo21 with f1_ f2_ f3_; have f4_ := f1_.symm; have f5_ := f3_.symm; clear f1_ f2_ f3_; subst f4_; subst f5_))
        refine hK.out _ _ ⟨(blk_cell BK136.out 0).trans rfl, (blk_cell BK136.out 1).trans rfl, (blk_cell BK136.out 2).trans rfl, (blk_cell BK134.out 0).trans rfl, (blk_cell BK134.out 1).trans rfl, (blk_cell BK134.out 2).trans rfl⟩ (fun hHeld => ?_)
        clear hK K
        refine norm_ (a' := ?_) ?_ ?_
        rotate_left
        ·show Act.put _ (some 28) _ = _
         simp only [Act.put, List.setIfInBounds_toArray, List.set_cons_zero, List.set_cons_succ, i64_w, i32_w]
         rfl
        refine pure_ (i := 8) (N := some 29) (v := ?_) (a' := ?_) #[true, true, true, true, true, true, true, true, true, false] rfl rfl (any_of HT_.out (by kernel_rfl)) (fun _ _ _ h => h) (Or.inl ⟨by rfl, ?_⟩) ?_ ?_
        rotate_left
        ·intro w'
         go_simp
         with_reducible rfl
        rotate_left
        ·simp only [Act.put, List.setIfInBounds_toArray, List.set_cons_zero, List.set_cons_succ, i64_w, i32_w]
         rfl
        refine last_ (i := 9) (N := none) #[true, true, true, true, true, true, true, true, true, true] rfl rfl (one_of HT_.out (by kernel_rfl)) (by decide) (fun K hK => ?_)
        have hs22 : w20.cell? ⟨gb136, 2, none⟩ = some (u137002) := (blk_cell BK136.out 2).trans rfl
        have hfs22 := blk_frozen BK136.out 2
        have hns22_0 := NB134_136.out
        have hns22_1 := NB135_136.out
        have hms22_0 := NB136_134.out
        have hms22_1 := NB136_135.out
        refine skip_ (w1 := ?_) (by rfl) rfl ?_ ?_
        rotate_left
        ·go_simp
         rfl
        refine hK.out _ _ ?_
        clear hK K
        refine done_ (done_of HT_.out (by kernel_rfl)) ?_
        try go_wp2
        go_roundg k2
        case measure => have := HK1.out; have := HK2.out; omega
        case rel => exact ⟨(wrap64 (x18_2 + 1)), (y138), (.slice Ao21 y138.length co21), smpA, H', ⟨by have := HK1.out; have := HK2.out; omega⟩, ⟨by (with_reducible repeat (first | apply Kd.R_alloc | apply Kd.R_drewN | apply Kd.R_drew)); exact Kd.R_mono (Kd.R_far (p := ⟨gb136, 2, none⟩) (Kd.R_types HO140.out BK136.out (by decide)) (fun _ hk => hk.2) (.slice Ao21 y138.length co21)) (fun _ hk => trivial)⟩, ⟨blkB BK134.out⟩, ⟨blkB BK135.out⟩, ⟨blkB BK136.out⟩, ⟨belA HB.out⟩⟩
       ·rw [if_neg c17] at H
        exact absurd H (by simp)
      ·rw [if_neg c15] at H
       have c15b0 : decide (x18_2 < a0_1) = false := decide_eq_false c15
       clear c15
       have H' := Aside0.mk H
       clear H
       go_wp2
       go_roundg k2
       case measure => have := HK1.out; have := HK2.out; omega
       case rel => exact ⟨(wrap64 (x13_1 + 1)), (x137002_2), (u137002), smpA, H', ⟨by have := HK1.out; have := HK2.out; omega⟩, ⟨rowA HO_137002.out⟩, ⟨blkA BK134.out⟩, ⟨blkA BK135.out⟩, ⟨blkA BK136.out⟩, ⟨belA HB.out⟩⟩
   ·rw [if_neg c11] at H
    have c11b0 : decide (x13_1 < a0_1) = false := decide_eq_false c11
    clear c11
    simp only [Option.some.injEq, Prod.mk.injEq] at H
    obtain ⟨rfl, rfl, rfl⟩ := H
    have hnb23 := NB136_134.out
    have hnc23 := NB134_136.out
    have hnb24 := NB136_135.out
    have hnc24 := NB135_136.out
    obtain ⟨hcz25_0, hcz25_1, hcz25_2, hfz25_0, hfz25_1, hfz25_2⟩ := bk3 BK136.out
    have hnb26 := NB135_134.out
    have hnc26 := NB134_135.out
    obtain ⟨hcz27_0, hcz27_1, hcz27_2, hfz27_0, hfz27_1, hfz27_2⟩ := bk3 BK135.out
    obtain ⟨Ao28, co28, eo28⟩ := Kd.R_slice HO_137002.out
    subst eo28
    go_wp2
    refine bodyPost_ret (results_cell_row rfl _ _ gb135 24 #[.int .i64 a0_1, .int .i64 a0_1, .slice Ao28 x137002_1.length co28] (0, 0) _ rfl (blkB BK135.out) Try.underlying24 rfl (by kernel_rfl)) rfl ?_
    exact ⟨_, errA, by (with_reducible repeat (first | apply Kd.R_alloc | apply Kd.R_drewN | apply Kd.R_drew)); exact Kd.R_mono (Kd.R_far (p := ⟨gb135, 2, none⟩) (Kd.R_far (p := ⟨gb135, 1, none⟩) (Kd.R_far (p := ⟨gb135, 0, none⟩) (Kd.R_types HO_137002.out BK135.out (by decide)) (fun _ hk => hk.2) (.int .i64 a0_1)) (fun _ hk => hk.2) (.int .i64 a0_1)) (fun _ hk => hk.2) (.slice Ao28 x137002_1.length co28)) (fun _ hk => trivial), belA HB.out⟩

def qrlayout_Blank.f (k : Nat) (a0 : Int) : Option (Int × Int × List Bool × Int) := (qrlayout_frameOf.f k a0).bind fun bt142 => (if bt142.2.2.2 = 0 then ((qrlayout_frame_blank.f k bt142.1 bt142.2.1 bt142.2.2.1).bind fun bt149 => (some (bt149.1, bt149.2.1, bt149.2.2, 0))) else (some (0, 0, ([] : List Bool), bt142.2.2.2)))
set_option maxHeartbeats 8000000 in
set_option maxRecDepth 100000 in
theorem qrlayout_Blank.calls (k : Nat) (a0 : Int) (r1 : Int) (r2 : Int) (r3 : List Bool) (r4 : Int) (w : World) (h : qrlayout_Blank.f k a0 = some (r1, r2, r3, r4)) :
  Calls Try.prog 12 #[.int .i64 a0] w fun e w' => ∃ v2_ : Value, e = .returned (.tuple #[.agg #[.int .i64 r1, .int .i64 r2, v2_], .int .i64 r4]) ∧ Kd.R Kd.bool 4 w' w.heap.size (fun _ => True) v2_ r3 ∧ Below w.heap.size w w' := by
 have hu24 := Try.underlying24
 have hu69 := Try.underlying69
 have HB := Aside0.mk (Below.refl w.heap.size w)
 have H : ((qrlayout_frameOf.f k a0).bind fun bt142 => (if bt142.2.2.2 = 0 then ((qrlayout_frame_blank.f k bt142.1 bt142.2.1 bt142.2.2.1).bind fun bt149 => (some (bt149.1, bt149.2.1, bt149.2.2, 0))) else (some (0, 0, ([] : List Bool), bt142.2.2.2)))) = some (r1, r2, r3, r4) := h
 clear h
 replace H := Option.bind_eq_some_iff.mp H
 obtain ⟨⟨t142, t143, t144, t147⟩, A20, H⟩ := H
 replace H : (if t147 = 0 then ((qrlayout_frame_blank.f k t142 t143 t144).bind fun bt149 => (some (bt149.1, bt149.2.1, bt149.2.2, 0))) else (some (0, 0, ([] : List Bool), t147))) = some (r1, r2, r3, r4) := H
 have A2 := Aside0.mk A20
 clear A20
 by_cases c3 : t147 = 0
 ·rw [if_pos c3] at H
  have c3b0 : (t147 == 0) = true := beq_iff_eq.mpr c3
  have c3b1 : (t147 != 0) = false := bne_eq_false_iff_eq.mpr c3
  clear c3
  replace H := Option.bind_eq_some_iff.mp H
  obtain ⟨⟨t149, t150, t151⟩, A40, H⟩ := H
  replace H : (some (t149, t150, t151, 0)) = some (r1, r2, r3, r4) := H
  have A4 := Aside0.mk A40
  clear A40
  simp only [Option.some.injEq, Prod.mk.injEq] at H
  obtain ⟨rfl, rfl, rfl, rfl⟩ := H
  go_enter Try.func12, Try.ntmps12
  go_wp2_with (first | ((with_reducible refine gate_dst (N := 2) rfl ?_); refine boxE (N := 2) (cs := #[.int .i64 0, .int .i64 0, .slice none 0 0]) (t := 24) ?_; intro gb141 hg w5 hbox hb; have BK141 := Aside0.mk (hbox); have GW141 := Aside0.mk ((szA hg HB.out : w.heap.size ≤ gb141)); have GE141 := Aside0.mk ((szA hg HB.out : w.heap.size ≤ gb141)); replace HB := Aside0.mk (below_step (belA HB.out) hb); clear hb hbox hg) | ((with_reducible refine gate_callee (f := 36) rfl ?_); refine goesL_ (some 8) rfl rfl Try.func36 (by kernel_rfl) rfl #[.int .i64 a0] rfl argA ?_; (with_reducible refine (qrlayout_frameOf.calls k a0 t142 t143 t144 t147 _ A2.out).mono ?_); rintro e w6 ⟨v145, rfl, ho0, hb⟩; refine ⟨_, rfl, ?_⟩; have HO146 := Aside0.mk (Kd.R_lower ho0 (below_size (belA HB.out))); replace BK141 := Aside0.mk (blk_below (g := gb141) (o := .cells #[.int .i64 0, .int .i64 0, .slice none 0 0] 24 (0, 0)) (blkA BK141.out) hb); replace HB := Aside0.mk (below_step (belA HB.out) hb); (try clear hb); (try clear hb2); (try clear hk); (try clear hi); (try clear ho0)) | ((with_reducible refine gate_dst (N := 4) rfl ?_); refine boxE (N := 4) (cs := #[.int .i64 0, .int .i64 0, .slice none 0 0]) (t := 69) ?_; intro gb148 hg w7 hbox hb; have BK148 := Aside0.mk (hbox); have GW148 := Aside0.mk ((szA hg HB.out : w.heap.size ≤ gb148)); have GE148 := Aside0.mk ((szA hg HB.out : w.heap.size ≤ gb148)); have NB141_148 := Aside0.mk ((neL hg BK141.out : gb141 ≠ gb148)); have NB148_141 := Aside0.mk ((neG hg BK141.out : gb148 ≠ gb141)); replace HO146 := Aside0.mk (Kd.R_below (rowA HO146.out) hb); replace BK141 := Aside0.mk (blk_below (g := gb141) (o := .cells #[.int .i64 0, .int .i64 0, .slice none 0 0] 24 (0, 0)) (blkA BK141.out) hb); replace HB := Aside0.mk (below_step (belA HB.out) hb); clear hb hbox hg; have hnb8 := NB148_141.out; have hnc8 := NB141_148.out; obtain ⟨hcz9_0, hcz9_1, hcz9_2, hfz9_0, hfz9_1, hfz9_2⟩ := bk3 BK148.out; obtain ⟨Ao10, co10, eo10⟩ := Kd.R_slice HO146.out; subst eo10) | ((with_reducible refine gate_callee (f := 37) rfl ?_); refine goesL_ (some 16) rfl rfl Try.func37 (by kernel_rfl) rfl #[.agg #[.int .i64 t142, .int .i64 t143, .slice Ao10 t144.length co10]] rfl argA ?_; (with_reducible refine (qrlayout_frame_blank.calls k t142 t143 _ _ t144 t149 t150 t151 _ ?side1 ?side2 A4.out).mono ?_); (case side1 => refine (Kd.R_reads' (e := 3) (base := w.heap.size) (ok := fun k_ => True) (n := t144.length) (c := co10) ?_).2.2; exact (by (with_reducible repeat (first | apply Kd.R_alloc | apply Kd.R_drewN | apply Kd.R_drew)); exact (Kd.R_mono (Kd.R_far (p := ⟨gb148, 2, none⟩) (Kd.R_far (p := ⟨gb148, 1, none⟩) (Kd.R_far (p := ⟨gb148, 0, none⟩) (Kd.R_types HO146.out BK148.out (by decide)) (fun _ hk => hk.2) (.int .i64 t142)) (fun _ hk => hk.2) (.int .i64 t143)) (fun _ hk => hk.2) (.slice Ao10 t144.length co10)) (fun _ h_ => h_.1)))); (case side2 => exact (Kd.R_reads' HO146.out).2.1); rintro e w11 ⟨v152, rfl, ho0, hb⟩; refine ⟨_, rfl, ?_⟩; have HO153 := Aside0.mk (Kd.R_lower ho0 (below_size (belA HB.out))); replace HO146 := Aside0.mk (Kd.R_below (by (with_reducible repeat (first | apply Kd.R_alloc | apply Kd.R_drewN | apply Kd.R_drew)); exact (Kd.R_mono (Kd.R_far (p := ⟨gb148, 2, none⟩) (Kd.R_far (p := ⟨gb148, 1, none⟩) (Kd.R_far (p := ⟨gb148, 0, none⟩) (Kd.R_types HO146.out BK148.out (by decide)) (fun _ hk => hk.2) (.int .i64 t142)) (fun _ hk => hk.2) (.int .i64 t143)) (fun _ hk => hk.2) (.slice Ao10 t144.length co10)) (fun _ h_ => h_.1))) hb); replace BK141 := Aside0.mk (blk_below (g := gb141) (o := .cells #[.int .i64 0, .int .i64 0, .slice none 0 0] 24 (0, 0)) (blkB BK141.out) hb); replace BK148 := Aside0.mk (blk_below (g := gb148) (o := .cells #[.int .i64 t142, .int .i64 t143, .slice Ao10 t144.length co10] 69 (0, 0)) (blkB BK148.out) hb); replace HB := Aside0.mk (below_step (belA HB.out) hb); (try clear hb); (try clear hb2); (try clear hk); (try clear hi); (try clear ho0); obtain ⟨hcz12_0, hcz12_1, hcz12_2, hfz12_0, hfz12_1, hfz12_2⟩ := bk3 BK141.out; obtain ⟨Ao13, co13, eo13⟩ := Kd.R_slice HO153.out; subst eo13))
  refine bodyPost_ret (results_ct rfl _ _ gb141 24 #[.int .i64 t149, .int .i64 t150, .slice Ao13 t151.length co13] (0, 0) _ rfl (blkB BK141.out) Try.underlying24 rfl (by kernel_rfl)) rfl ?_
  exact ⟨_, errA, by (with_reducible repeat (first | apply Kd.R_alloc | apply Kd.R_drewN | apply Kd.R_drew)); exact Kd.R_mono (Kd.R_far (p := ⟨gb141, 2, none⟩) (Kd.R_far (p := ⟨gb141, 1, none⟩) (Kd.R_far (p := ⟨gb141, 0, none⟩) (Kd.R_types HO153.out BK141.out (by decide)) (fun _ hk => hk.2) (.int .i64 t149)) (fun _ hk => hk.2) (.int .i64 t150)) (fun _ hk => hk.2) (.slice Ao13 t151.length co13)) (fun _ hk => trivial), belA HB.out⟩
 ·rw [if_neg c3] at H
  have c3b0 : (t147 == 0) = false := beq_eq_false_iff_ne.mpr c3
  have c3b1 : (t147 != 0) = true := bne_iff_ne.mpr c3
  simp only [Option.some.injEq, Prod.mk.injEq] at H
  obtain ⟨rfl, rfl, rfl, rfl⟩ := H
  go_enter Try.func12, Try.ntmps12
  go_wp2_with (first | ((with_reducible refine gate_dst (N := 2) rfl ?_); refine boxE (N := 2) (cs := #[.int .i64 0, .int .i64 0, .slice none 0 0]) (t := 24) ?_; intro gb141 hg w14 hbox hb; have BK141 := Aside0.mk (hbox); have GW141 := Aside0.mk ((szA hg HB.out : w.heap.size ≤ gb141)); have GE141 := Aside0.mk ((szA hg HB.out : w.heap.size ≤ gb141)); replace HB := Aside0.mk (below_step (belA HB.out) hb); clear hb hbox hg) | ((with_reducible refine gate_callee (f := 36) rfl ?_); refine goesL_ (some 8) rfl rfl Try.func36 (by kernel_rfl) rfl #[.int .i64 a0] rfl argA ?_; (with_reducible refine (qrlayout_frameOf.calls k a0 t142 t143 t144 t147 _ A2.out).mono ?_); rintro e w15 ⟨v145, rfl, ho0, hb⟩; refine ⟨_, rfl, ?_⟩; have HO146 := Aside0.mk (Kd.R_lower ho0 (below_size (belA HB.out))); replace BK141 := Aside0.mk (blk_below (g := gb141) (o := .cells #[.int .i64 0, .int .i64 0, .slice none 0 0] 24 (0, 0)) (blkA BK141.out) hb); replace HB := Aside0.mk (below_step (belA HB.out) hb); (try clear hb); (try clear hb2); (try clear hk); (try clear hi); (try clear ho0)) | ((with_reducible refine gate_dst (N := 4) rfl ?_); refine boxE (N := 4) (cs := #[.int .i64 0, .int .i64 0, .slice none 0 0]) (t := 69) ?_; intro gb148 hg w16 hbox hb; have BK148 := Aside0.mk (hbox); have GW148 := Aside0.mk ((szA hg HB.out : w.heap.size ≤ gb148)); have GE148 := Aside0.mk ((szA hg HB.out : w.heap.size ≤ gb148)); have NB141_148 := Aside0.mk ((neL hg BK141.out : gb141 ≠ gb148)); have NB148_141 := Aside0.mk ((neG hg BK141.out : gb148 ≠ gb141)); replace HO146 := Aside0.mk (Kd.R_below (rowA HO146.out) hb); replace BK141 := Aside0.mk (blk_below (g := gb141) (o := .cells #[.int .i64 0, .int .i64 0, .slice none 0 0] 24 (0, 0)) (blkA BK141.out) hb); replace HB := Aside0.mk (below_step (belA HB.out) hb); clear hb hbox hg; have hnb17 := NB148_141.out; have hnc17 := NB141_148.out; obtain ⟨hcz18_0, hcz18_1, hcz18_2, hfz18_0, hfz18_1, hfz18_2⟩ := bk3 BK148.out; obtain ⟨Ao19, co19, eo19⟩ := Kd.R_slice HO146.out; subst eo19; obtain ⟨hcz20_0, hcz20_1, hcz20_2, hfz20_0, hfz20_1, hfz20_2⟩ := bk3 BK141.out))
  refine bodyPost_ret (results_ct rfl _ _ gb141 24 #[.int .i64 0, .int .i64 0, .slice none 0 0] (0, 0) _ rfl (blkB BK141.out) Try.underlying24 rfl (by kernel_rfl)) rfl ?_
  exact ⟨_, errA, nilA, belA HB.out⟩

def qrlayout_valid.f (a0_0 : Int) (a0_1 : Int) (l0_2 : List Bool) : Option (Bool) := if a0_0 ≥ 1 then (if a0_1 ≥ 1 then (if a0_0 ≤ 4096 then (if a0_1 ≤ 4096 then (if (wrap64 (a0_0 * a0_1)) ≤ 4194304 then (some ((l0_2.length : Int) == (wrap64 (a0_0 * a0_1)))) else (some false)) else (some false)) else (some false)) else (some false)) else (some false)
set_option maxHeartbeats 8000000 in
set_option maxRecDepth 100000 in
theorem qrlayout_valid.calls (a0_0 : Int) (a0_1 : Int) (A0_2 : Option Addr) (c0_2 : Nat) (l0_2 : List Bool) (r : Bool) (w : World) (hr0_2 : Kd.C Kd.bool w A0_2 l0_2.length l0_2) (hc0_2 : l0_2.length ≤ c0_2) (h : qrlayout_valid.f a0_0 a0_1 l0_2 = some r) :
  Calls Try.prog 73 #[.agg #[.int .i64 a0_0, .int .i64 a0_1, .slice A0_2 l0_2.length c0_2]] w fun e w' => e = .returned (.bool r) ∧ Below w.heap.size w w' := by
 have hu24 := Try.underlying24
 have HR0_2 := Aside0.mk hr0_2
 have HC0_2 := Aside0.mk hc0_2
 clear hr0_2 hc0_2
 have HB := Aside0.mk (Below.refl w.heap.size w)
 have H : (if a0_0 ≥ 1 then (if a0_1 ≥ 1 then (if a0_0 ≤ 4096 then (if a0_1 ≤ 4096 then (if (wrap64 (a0_0 * a0_1)) ≤ 4194304 then (some ((l0_2.length : Int) == (wrap64 (a0_0 * a0_1)))) else (some false)) else (some false)) else (some false)) else (some false)) else (some false)) = some r := h
 clear h
 by_cases c2 : a0_0 ≥ 1
 ·rw [if_pos c2] at H
  have c2b0 : decide (1 ≤ a0_0) = true := decide_eq_true c2
  clear c2
  by_cases c3 : a0_1 ≥ 1
  ·rw [if_pos c3] at H
   have c3b0 : decide (1 ≤ a0_1) = true := decide_eq_true c3
   clear c3
   by_cases c4 : a0_0 ≤ 4096
   ·rw [if_pos c4] at H
    have c4b0 : decide (a0_0 ≤ 4096) = true := decide_eq_true c4
    clear c4
    by_cases c5 : a0_1 ≤ 4096
    ·rw [if_pos c5] at H
     have c5b0 : decide (a0_1 ≤ 4096) = true := decide_eq_true c5
     clear c5
     by_cases c6 : (wrap64 (a0_0 * a0_1)) ≤ 4194304
     ·rw [if_pos c6] at H
      have c6b0 : decide ((wrap64 (a0_0 * a0_1)) ≤ 4194304) = true := decide_eq_true c6
      clear c6
      obtain rfl := Option.some.inj H
      go_enter Try.func73, Try.ntmps73
      go_wp2_with (first | ((with_reducible refine gate_dst (N := 1) rfl ?_); (try (refine gate_guard (by rfl) ?_; dsimp only)); refine boxE (N := 1) (cs := #[.int .i64 a0_0, .int .i64 a0_1, .slice A0_2 l0_2.length c0_2]) (t := 24) ?_; intro gb154 hg w7 hbox hb; have BK154 := Aside0.mk (hbox); have GW154 := Aside0.mk ((szA hg HB.out : w.heap.size ≤ gb154)); have GE154 := Aside0.mk ((szA hg HB.out : w.heap.size ≤ gb154)); replace HB := Aside0.mk (below_step (belA HB.out) hb); clear hb hbox hg; obtain ⟨hcz8_0, hcz8_1, hcz8_2, hfz8_0, hfz8_1, hfz8_2⟩ := bk3 BK154.out))
      go_ret
      exact ⟨errA, belA HB.out⟩
     ·rw [if_neg c6] at H
      have c6b0 : decide ((wrap64 (a0_0 * a0_1)) ≤ 4194304) = false := decide_eq_false c6
      clear c6
      obtain rfl := Option.some.inj H
      go_enter Try.func73, Try.ntmps73
      go_wp2_with (first | ((with_reducible refine gate_dst (N := 1) rfl ?_); (try (refine gate_guard (by rfl) ?_; dsimp only)); refine boxE (N := 1) (cs := #[.int .i64 a0_0, .int .i64 a0_1, .slice A0_2 l0_2.length c0_2]) (t := 24) ?_; intro gb154 hg w9 hbox hb; have BK154 := Aside0.mk (hbox); have GW154 := Aside0.mk ((szA hg HB.out : w.heap.size ≤ gb154)); have GE154 := Aside0.mk ((szA hg HB.out : w.heap.size ≤ gb154)); replace HB := Aside0.mk (below_step (belA HB.out) hb); clear hb hbox hg; obtain ⟨hcz10_0, hcz10_1, hcz10_2, hfz10_0, hfz10_1, hfz10_2⟩ := bk3 BK154.out))
      go_ret
      exact ⟨errA, belA HB.out⟩
    ·rw [if_neg c5] at H
     have c5b0 : decide (a0_1 ≤ 4096) = false := decide_eq_false c5
     clear c5
     obtain rfl := Option.some.inj H
     go_enter Try.func73, Try.ntmps73
     go_wp2_with (first | ((with_reducible refine gate_dst (N := 1) rfl ?_); (try (refine gate_guard (by rfl) ?_; dsimp only)); refine boxE (N := 1) (cs := #[.int .i64 a0_0, .int .i64 a0_1, .slice A0_2 l0_2.length c0_2]) (t := 24) ?_; intro gb154 hg w11 hbox hb; have BK154 := Aside0.mk (hbox); have GW154 := Aside0.mk ((szA hg HB.out : w.heap.size ≤ gb154)); have GE154 := Aside0.mk ((szA hg HB.out : w.heap.size ≤ gb154)); replace HB := Aside0.mk (below_step (belA HB.out) hb); clear hb hbox hg; obtain ⟨hcz12_0, hcz12_1, hcz12_2, hfz12_0, hfz12_1, hfz12_2⟩ := bk3 BK154.out))
     go_ret
     exact ⟨errA, belA HB.out⟩
   ·rw [if_neg c4] at H
    have c4b0 : decide (a0_0 ≤ 4096) = false := decide_eq_false c4
    clear c4
    obtain rfl := Option.some.inj H
    go_enter Try.func73, Try.ntmps73
    go_wp2_with (first | ((with_reducible refine gate_dst (N := 1) rfl ?_); (try (refine gate_guard (by rfl) ?_; dsimp only)); refine boxE (N := 1) (cs := #[.int .i64 a0_0, .int .i64 a0_1, .slice A0_2 l0_2.length c0_2]) (t := 24) ?_; intro gb154 hg w13 hbox hb; have BK154 := Aside0.mk (hbox); have GW154 := Aside0.mk ((szA hg HB.out : w.heap.size ≤ gb154)); have GE154 := Aside0.mk ((szA hg HB.out : w.heap.size ≤ gb154)); replace HB := Aside0.mk (below_step (belA HB.out) hb); clear hb hbox hg; obtain ⟨hcz14_0, hcz14_1, hcz14_2, hfz14_0, hfz14_1, hfz14_2⟩ := bk3 BK154.out))
    go_ret
    exact ⟨errA, belA HB.out⟩
  ·rw [if_neg c3] at H
   have c3b0 : decide (1 ≤ a0_1) = false := decide_eq_false c3
   clear c3
   obtain rfl := Option.some.inj H
   go_enter Try.func73, Try.ntmps73
   go_wp2_with (first | ((with_reducible refine gate_dst (N := 1) rfl ?_); (try (refine gate_guard (by rfl) ?_; dsimp only)); refine boxE (N := 1) (cs := #[.int .i64 a0_0, .int .i64 a0_1, .slice A0_2 l0_2.length c0_2]) (t := 24) ?_; intro gb154 hg w15 hbox hb; have BK154 := Aside0.mk (hbox); have GW154 := Aside0.mk ((szA hg HB.out : w.heap.size ≤ gb154)); have GE154 := Aside0.mk ((szA hg HB.out : w.heap.size ≤ gb154)); replace HB := Aside0.mk (below_step (belA HB.out) hb); clear hb hbox hg; obtain ⟨hcz16_0, hcz16_1, hcz16_2, hfz16_0, hfz16_1, hfz16_2⟩ := bk3 BK154.out))
   go_ret
   exact ⟨errA, belA HB.out⟩
 ·rw [if_neg c2] at H
  have c2b0 : decide (1 ≤ a0_0) = false := decide_eq_false c2
  clear c2
  obtain rfl := Option.some.inj H
  go_enter Try.func73, Try.ntmps73
  go_wp2_with (first | ((with_reducible refine gate_dst (N := 1) rfl ?_); (try (refine gate_guard (by rfl) ?_; dsimp only)); refine boxE (N := 1) (cs := #[.int .i64 a0_0, .int .i64 a0_1, .slice A0_2 l0_2.length c0_2]) (t := 24) ?_; intro gb154 hg w17 hbox hb; have BK154 := Aside0.mk (hbox); have GW154 := Aside0.mk ((szA hg HB.out : w.heap.size ≤ gb154)); have GE154 := Aside0.mk ((szA hg HB.out : w.heap.size ≤ gb154)); replace HB := Aside0.mk (below_step (belA HB.out) hb); clear hb hbox hg; obtain ⟨hcz18_0, hcz18_1, hcz18_2, hfz18_0, hfz18_1, hfz18_2⟩ := bk3 BK154.out))
  go_ret
  exact ⟨errA, belA HB.out⟩

def qrlayout_sized.f (k : Nat) (a0_0 : Int) (a0_1 : Int) (l0_2 : List Bool) : Option (Int × Int × List Int × Int) := (qrlayout_valid.f a0_0 a0_1 l0_2).bind fun t157 => (if t157 = true then ((qrlayout_frameOf.f k (wrap64 (Int.tdiv (wrap64 (a0_0 - 17)) 4))).bind fun bt158 => (if bt158.2.2.2 = 0 then (if bt158.2.1 = a0_0 then (if a0_1 = a0_0 then (some (bt158.1, bt158.2.1, bt158.2.2.1, 0)) else (some (0, 0, ([] : List Int), 23))) else (some (0, 0, ([] : List Int), 23))) else (some (0, 0, ([] : List Int), 23)))) else (some (0, 0, ([] : List Int), 1)))
set_option maxHeartbeats 8000000 in
set_option maxRecDepth 100000 in
theorem qrlayout_sized.calls (k : Nat) (a0_0 : Int) (a0_1 : Int) (A0_2 : Option Addr) (c0_2 : Nat) (l0_2 : List Bool) (r1 : Int) (r2 : Int) (r3 : List Int) (r4 : Int) (w : World) (hr0_2 : Kd.C Kd.bool w A0_2 l0_2.length l0_2) (hc0_2 : l0_2.length ≤ c0_2) (h : qrlayout_sized.f k a0_0 a0_1 l0_2 = some (r1, r2, r3, r4)) :
  Calls Try.prog 40 #[.agg #[.int .i64 a0_0, .int .i64 a0_1, .slice A0_2 l0_2.length c0_2]] w fun e w' => ∃ v2_ : Value, e = .returned (.tuple #[.agg #[.int .i64 r1, .int .i64 r2, v2_], .int .i64 r4]) ∧ Kd.R (Kd.int .i64) 3 w' w.heap.size (fun _ => True) v2_ r3 ∧ Below w.heap.size w w' := by
 have hu24 := Try.underlying24
 have hu69 := Try.underlying69
 have HR0_2 := Aside0.mk hr0_2
 have HC0_2 := Aside0.mk hc0_2
 clear hr0_2 hc0_2
 have HB := Aside0.mk (Below.refl w.heap.size w)
 have H : ((qrlayout_valid.f a0_0 a0_1 l0_2).bind fun t157 => (if t157 = true then ((qrlayout_frameOf.f k (wrap64 (Int.tdiv (wrap64 (a0_0 - 17)) 4))).bind fun bt158 => (if bt158.2.2.2 = 0 then (if bt158.2.1 = a0_0 then (if a0_1 = a0_0 then (some (bt158.1, bt158.2.1, bt158.2.2.1, 0)) else (some (0, 0, ([] : List Int), 23))) else (some (0, 0, ([] : List Int), 23))) else (some (0, 0, ([] : List Int), 23)))) else (some (0, 0, ([] : List Int), 1)))) = some (r1, r2, r3, r4) := h
 clear h
 replace H := Option.bind_eq_some_iff.mp H
 obtain ⟨t157, A20, H⟩ := H
 replace H : (if t157 = true then ((qrlayout_frameOf.f k (wrap64 (Int.tdiv (wrap64 (a0_0 - 17)) 4))).bind fun bt158 => (if bt158.2.2.2 = 0 then (if bt158.2.1 = a0_0 then (if a0_1 = a0_0 then (some (bt158.1, bt158.2.1, bt158.2.2.1, 0)) else (some (0, 0, ([] : List Int), 23))) else (some (0, 0, ([] : List Int), 23))) else (some (0, 0, ([] : List Int), 23)))) else (some (0, 0, ([] : List Int), 1))) = some (r1, r2, r3, r4) := H
 have A2 := Aside0.mk A20
 clear A20
 by_cases c3 : t157 = true
 ·subst c3
  have H1 : ((qrlayout_frameOf.f k (wrap64 (Int.tdiv (wrap64 (a0_0 - 17)) 4))).bind fun bt158 => (if bt158.2.2.2 = 0 then (if bt158.2.1 = a0_0 then (if a0_1 = a0_0 then (some (bt158.1, bt158.2.1, bt158.2.2.1, 0)) else (some (0, 0, ([] : List Int), 23))) else (some (0, 0, ([] : List Int), 23))) else (some (0, 0, ([] : List Int), 23)))) = some (r1, r2, r3, r4) := by rw [if_pos rfl] at H; exact H
  clear H
  have H := H1
  clear H1
  replace H := Option.bind_eq_some_iff.mp H
  obtain ⟨⟨t158, t159, t160, t163⟩, A40, H⟩ := H
  replace H : (if t163 = 0 then (if t159 = a0_0 then (if a0_1 = a0_0 then (some (t158, t159, t160, 0)) else (some (0, 0, ([] : List Int), 23))) else (some (0, 0, ([] : List Int), 23))) else (some (0, 0, ([] : List Int), 23))) = some (r1, r2, r3, r4) := H
  have A4 := Aside0.mk A40
  clear A40
  by_cases c5 : t163 = 0
  ·rw [if_pos c5] at H
   have c5b0 : (t163 == 0) = true := beq_iff_eq.mpr c5
   have c5b1 : (t163 != 0) = false := bne_eq_false_iff_eq.mpr c5
   clear c5
   by_cases c6 : t159 = a0_0
   ·rw [if_pos c6] at H
    have c6b0 : (t159 == a0_0) = true := beq_iff_eq.mpr c6
    have c6b1 : (t159 != a0_0) = false := bne_eq_false_iff_eq.mpr c6
    clear c6
    by_cases c7 : a0_1 = a0_0
    ·rw [if_pos c7] at H
     have c7b0 : (a0_1 == a0_0) = true := beq_iff_eq.mpr c7
     have c7b1 : (a0_1 != a0_0) = false := bne_eq_false_iff_eq.mpr c7
     clear c7
     simp only [Option.some.injEq, Prod.mk.injEq] at H
     obtain ⟨rfl, rfl, rfl, rfl⟩ := H
     go_enter Try.func40, Try.ntmps40
     go_wp2_with (first | ((with_reducible refine gate_dst (N := 1) rfl ?_); refine boxE (N := 1) (cs := #[.int .i64 a0_0, .int .i64 a0_1, .slice A0_2 l0_2.length c0_2]) (t := 24) ?_; intro gb155 hg w8 hbox hb; have BK155 := Aside0.mk (hbox); have GW155 := Aside0.mk ((szA hg HB.out : w.heap.size ≤ gb155)); have GE155 := Aside0.mk ((szA hg HB.out : w.heap.size ≤ gb155)); replace HB := Aside0.mk (below_step (belA HB.out) hb); clear hb hbox hg) | ((with_reducible refine gate_dst (N := 2) rfl ?_); refine boxE (N := 2) (cs := #[.int .i64 0, .int .i64 0, .slice none 0 0]) (t := 69) ?_; intro gb156 hg w9 hbox hb; have BK156 := Aside0.mk (hbox); have GW156 := Aside0.mk ((szA hg HB.out : w.heap.size ≤ gb156)); have GE156 := Aside0.mk ((szA hg HB.out : w.heap.size ≤ gb156)); have NB155_156 := Aside0.mk ((neL hg BK155.out : gb155 ≠ gb156)); have NB156_155 := Aside0.mk ((neG hg BK155.out : gb156 ≠ gb155)); replace BK155 := Aside0.mk (blk_below (g := gb155) (o := .cells #[.int .i64 a0_0, .int .i64 a0_1, .slice A0_2 l0_2.length c0_2] 24 (0, 0)) (blkA BK155.out) hb); replace HB := Aside0.mk (below_step (belA HB.out) hb); clear hb hbox hg; have hnb10 := NB155_156.out; have hnc10 := NB156_155.out; obtain ⟨hcz11_0, hcz11_1, hcz11_2, hfz11_0, hfz11_1, hfz11_2⟩ := bk3 BK155.out) | ((with_reducible refine gate_callee (f := 73) rfl ?_); refine goesL_ (some 7) rfl rfl Try.func73 (by kernel_rfl) rfl #[.agg #[.int .i64 a0_0, .int .i64 a0_1, .slice A0_2 l0_2.length c0_2]] rfl argA ?_; (with_reducible refine (qrlayout_valid.calls a0_0 a0_1 _ _ l0_2 true _ ?side1 ?side2 A2.out).mono ?_); (case side1 => exact lowA (Kd.C_below HR0_2.out HB.out)); (case side2 => exact HC0_2.out); rintro e w12 ⟨rfl, hb⟩; refine ⟨_, rfl, ?_⟩; replace BK155 := Aside0.mk (blk_below (g := gb155) (o := .cells #[.int .i64 a0_0, .int .i64 a0_1, .slice A0_2 l0_2.length c0_2] 24 (0, 0)) (blkA BK155.out) hb); replace BK156 := Aside0.mk (blk_below (g := gb156) (o := .cells #[.int .i64 0, .int .i64 0, .slice none 0 0] 69 (0, 0)) (blkA BK156.out) hb); replace HB := Aside0.mk (below_step (belA HB.out) hb); (try clear hb); (try clear hb2); (try clear hk); (try clear hi); obtain ⟨hcz13_0, hcz13_1, hcz13_2, hfz13_0, hfz13_1, hfz13_2⟩ := bk3 BK155.out) | ((with_reducible refine gate_callee (f := 36) rfl ?_); refine goesL_ (some 15) rfl rfl Try.func36 (by kernel_rfl) rfl #[.int .i64 (wrap64 (Int.tdiv (wrap64 (a0_0 - 17)) 4))] rfl argA ?_; (with_reducible refine (qrlayout_frameOf.calls k (wrap64 (Int.tdiv (wrap64 (a0_0 - 17)) 4)) t158 t159 t160 t163 _ A4.out).mono ?_); rintro e w14 ⟨v161, rfl, ho0, hb⟩; refine ⟨_, rfl, ?_⟩; have HO162 := Aside0.mk (Kd.R_lower ho0 (below_size (belA HB.out))); replace BK155 := Aside0.mk (blk_below (g := gb155) (o := .cells #[.int .i64 a0_0, .int .i64 a0_1, .slice A0_2 l0_2.length c0_2] 24 (0, 0)) (blkA BK155.out) hb); replace BK156 := Aside0.mk (blk_below (g := gb156) (o := .cells #[.int .i64 0, .int .i64 0, .slice none 0 0] 69 (0, 0)) (blkA BK156.out) hb); replace HB := Aside0.mk (below_step (belA HB.out) hb); (try clear hb); (try clear hb2); (try clear hk); (try clear hi); (try clear ho0)) | ((with_reducible refine gate_dst (N := 4) rfl ?_); refine boxE (N := 4) (cs := #[.int .i64 0, .int .i64 0, .slice none 0 0]) (t := 69) ?_; intro gb164 hg w15 hbox hb; have BK164 := Aside0.mk (hbox); have GW164 := Aside0.mk ((szA hg HB.out : w.heap.size ≤ gb164)); have GE164 := Aside0.mk ((szA hg HB.out : w.heap.size ≤ gb164)); have NB155_164 := Aside0.mk ((neL hg BK155.out : gb155 ≠ gb164)); have NB164_155 := Aside0.mk ((neG hg BK155.out : gb164 ≠ gb155)); have NB156_164 := Aside0.mk ((neL hg BK156.out : gb156 ≠ gb164)); have NB164_156 := Aside0.mk ((neG hg BK156.out : gb164 ≠ gb156)); replace HO162 := Aside0.mk (Kd.R_below (rowA HO162.out) hb); replace BK155 := Aside0.mk (blk_below (g := gb155) (o := .cells #[.int .i64 a0_0, .int .i64 a0_1, .slice A0_2 l0_2.length c0_2] 24 (0, 0)) (blkA BK155.out) hb); replace BK156 := Aside0.mk (blk_below (g := gb156) (o := .cells #[.int .i64 0, .int .i64 0, .slice none 0 0] 69 (0, 0)) (blkA BK156.out) hb); replace HB := Aside0.mk (below_step (belA HB.out) hb); clear hb hbox hg; have hnb16 := NB164_155.out; have hnc16 := NB155_164.out; have hnb17 := NB164_156.out; have hnc17 := NB156_164.out; obtain ⟨hcz18_0, hcz18_1, hcz18_2, hfz18_0, hfz18_1, hfz18_2⟩ := bk3 BK164.out; obtain ⟨Ao19, co19, eo19⟩ := Kd.R_slice HO162.out; subst eo19; obtain ⟨hcz20_0, hcz20_1, hcz20_2, hfz20_0, hfz20_1, hfz20_2⟩ := bk3 BK155.out; obtain ⟨hcz21_0, hcz21_1, hcz21_2, hfz21_0, hfz21_1, hfz21_2⟩ := bk3 BK156.out))
     refine bodyPost_ret (results_ct rfl _ _ gb156 69 #[.int .i64 t158, .int .i64 t159, .slice Ao19 t160.length co19] (0, 0) _ rfl (blkB BK156.out) Try.underlying69 rfl (by kernel_rfl)) rfl ?_
     exact ⟨_, errA, by (with_reducible repeat (first | apply Kd.R_alloc | apply Kd.R_drewN | apply Kd.R_drew)); exact Kd.R_mono (Kd.R_far (p := ⟨gb156, 2, none⟩) (Kd.R_far (p := ⟨gb156, 1, none⟩) (Kd.R_far (p := ⟨gb156, 0, none⟩) (Kd.R_far (p := ⟨gb164, 2, none⟩) (Kd.R_far (p := ⟨gb164, 1, none⟩) (Kd.R_far (p := ⟨gb164, 0, none⟩) (Kd.R_types (Kd.R_types HO162.out BK164.out (by decide)) BK156.out (by decide)) (fun _ hk => hk.1.2) (.int .i64 t158)) (fun _ hk => hk.1.2) (.int .i64 t159)) (fun _ hk => hk.1.2) (.slice Ao19 t160.length co19)) (fun _ hk => hk.2) (.int .i64 t158)) (fun _ hk => hk.2) (.int .i64 t159)) (fun _ hk => hk.2) (.slice Ao19 t160.length co19)) (fun _ hk => trivial), belA HB.out⟩
    ·rw [if_neg c7] at H
     have c7b0 : (a0_1 == a0_0) = false := beq_eq_false_iff_ne.mpr c7
     have c7b1 : (a0_1 != a0_0) = true := bne_iff_ne.mpr c7
     simp only [Option.some.injEq, Prod.mk.injEq] at H
     obtain ⟨rfl, rfl, rfl, rfl⟩ := H
     go_enter Try.func40, Try.ntmps40
     go_wp2_with (first | ((with_reducible refine gate_dst (N := 1) rfl ?_); refine boxE (N := 1) (cs := #[.int .i64 a0_0, .int .i64 a0_1, .slice A0_2 l0_2.length c0_2]) (t := 24) ?_; intro gb155 hg w22 hbox hb; have BK155 := Aside0.mk (hbox); have GW155 := Aside0.mk ((szA hg HB.out : w.heap.size ≤ gb155)); have GE155 := Aside0.mk ((szA hg HB.out : w.heap.size ≤ gb155)); replace HB := Aside0.mk (below_step (belA HB.out) hb); clear hb hbox hg) | ((with_reducible refine gate_dst (N := 2) rfl ?_); refine boxE (N := 2) (cs := #[.int .i64 0, .int .i64 0, .slice none 0 0]) (t := 69) ?_; intro gb156 hg w23 hbox hb; have BK156 := Aside0.mk (hbox); have GW156 := Aside0.mk ((szA hg HB.out : w.heap.size ≤ gb156)); have GE156 := Aside0.mk ((szA hg HB.out : w.heap.size ≤ gb156)); have NB155_156 := Aside0.mk ((neL hg BK155.out : gb155 ≠ gb156)); have NB156_155 := Aside0.mk ((neG hg BK155.out : gb156 ≠ gb155)); replace BK155 := Aside0.mk (blk_below (g := gb155) (o := .cells #[.int .i64 a0_0, .int .i64 a0_1, .slice A0_2 l0_2.length c0_2] 24 (0, 0)) (blkA BK155.out) hb); replace HB := Aside0.mk (below_step (belA HB.out) hb); clear hb hbox hg; have hnb24 := NB155_156.out; have hnc24 := NB156_155.out; obtain ⟨hcz25_0, hcz25_1, hcz25_2, hfz25_0, hfz25_1, hfz25_2⟩ := bk3 BK155.out) | ((with_reducible refine gate_callee (f := 73) rfl ?_); refine goesL_ (some 7) rfl rfl Try.func73 (by kernel_rfl) rfl #[.agg #[.int .i64 a0_0, .int .i64 a0_1, .slice A0_2 l0_2.length c0_2]] rfl argA ?_; (with_reducible refine (qrlayout_valid.calls a0_0 a0_1 _ _ l0_2 true _ ?side1 ?side2 A2.out).mono ?_); (case side1 => exact lowA (Kd.C_below HR0_2.out HB.out)); (case side2 => exact HC0_2.out); rintro e w26 ⟨rfl, hb⟩; refine ⟨_, rfl, ?_⟩; replace BK155 := Aside0.mk (blk_below (g := gb155) (o := .cells #[.int .i64 a0_0, .int .i64 a0_1, .slice A0_2 l0_2.length c0_2] 24 (0, 0)) (blkA BK155.out) hb); replace BK156 := Aside0.mk (blk_below (g := gb156) (o := .cells #[.int .i64 0, .int .i64 0, .slice none 0 0] 69 (0, 0)) (blkA BK156.out) hb); replace HB := Aside0.mk (below_step (belA HB.out) hb); (try clear hb); (try clear hb2); (try clear hk); (try clear hi); obtain ⟨hcz27_0, hcz27_1, hcz27_2, hfz27_0, hfz27_1, hfz27_2⟩ := bk3 BK155.out) | ((with_reducible refine gate_callee (f := 36) rfl ?_); refine goesL_ (some 15) rfl rfl Try.func36 (by kernel_rfl) rfl #[.int .i64 (wrap64 (Int.tdiv (wrap64 (a0_0 - 17)) 4))] rfl argA ?_; (with_reducible refine (qrlayout_frameOf.calls k (wrap64 (Int.tdiv (wrap64 (a0_0 - 17)) 4)) t158 t159 t160 t163 _ A4.out).mono ?_); rintro e w28 ⟨v161, rfl, ho0, hb⟩; refine ⟨_, rfl, ?_⟩; have HO162 := Aside0.mk (Kd.R_lower ho0 (below_size (belA HB.out))); replace BK155 := Aside0.mk (blk_below (g := gb155) (o := .cells #[.int .i64 a0_0, .int .i64 a0_1, .slice A0_2 l0_2.length c0_2] 24 (0, 0)) (blkA BK155.out) hb); replace BK156 := Aside0.mk (blk_below (g := gb156) (o := .cells #[.int .i64 0, .int .i64 0, .slice none 0 0] 69 (0, 0)) (blkA BK156.out) hb); replace HB := Aside0.mk (below_step (belA HB.out) hb); (try clear hb); (try clear hb2); (try clear hk); (try clear hi); (try clear ho0)) | ((with_reducible refine gate_dst (N := 4) rfl ?_); refine boxE (N := 4) (cs := #[.int .i64 0, .int .i64 0, .slice none 0 0]) (t := 69) ?_; intro gb164 hg w29 hbox hb; have BK164 := Aside0.mk (hbox); have GW164 := Aside0.mk ((szA hg HB.out : w.heap.size ≤ gb164)); have GE164 := Aside0.mk ((szA hg HB.out : w.heap.size ≤ gb164)); have NB155_164 := Aside0.mk ((neL hg BK155.out : gb155 ≠ gb164)); have NB164_155 := Aside0.mk ((neG hg BK155.out : gb164 ≠ gb155)); have NB156_164 := Aside0.mk ((neL hg BK156.out : gb156 ≠ gb164)); have NB164_156 := Aside0.mk ((neG hg BK156.out : gb164 ≠ gb156)); replace HO162 := Aside0.mk (Kd.R_below (rowA HO162.out) hb); replace BK155 := Aside0.mk (blk_below (g := gb155) (o := .cells #[.int .i64 a0_0, .int .i64 a0_1, .slice A0_2 l0_2.length c0_2] 24 (0, 0)) (blkA BK155.out) hb); replace BK156 := Aside0.mk (blk_below (g := gb156) (o := .cells #[.int .i64 0, .int .i64 0, .slice none 0 0] 69 (0, 0)) (blkA BK156.out) hb); replace HB := Aside0.mk (below_step (belA HB.out) hb); clear hb hbox hg; have hnb30 := NB164_155.out; have hnc30 := NB155_164.out; have hnb31 := NB164_156.out; have hnc31 := NB156_164.out; obtain ⟨hcz32_0, hcz32_1, hcz32_2, hfz32_0, hfz32_1, hfz32_2⟩ := bk3 BK164.out; obtain ⟨Ao33, co33, eo33⟩ := Kd.R_slice HO162.out; subst eo33; obtain ⟨hcz34_0, hcz34_1, hcz34_2, hfz34_0, hfz34_1, hfz34_2⟩ := bk3 BK155.out; obtain ⟨hcz35_0, hcz35_1, hcz35_2, hfz35_0, hfz35_1, hfz35_2⟩ := bk3 BK156.out))
     refine bodyPost_ret (results_ct rfl _ _ gb156 69 #[.int .i64 0, .int .i64 0, .slice none 0 0] (0, 0) _ rfl (blkB BK156.out) Try.underlying69 rfl (by kernel_rfl)) rfl ?_
     exact ⟨_, errA, nilA, belA HB.out⟩
   ·rw [if_neg c6] at H
    have c6b0 : (t159 == a0_0) = false := beq_eq_false_iff_ne.mpr c6
    have c6b1 : (t159 != a0_0) = true := bne_iff_ne.mpr c6
    simp only [Option.some.injEq, Prod.mk.injEq] at H
    obtain ⟨rfl, rfl, rfl, rfl⟩ := H
    go_enter Try.func40, Try.ntmps40
    go_wp2_with (first | ((with_reducible refine gate_dst (N := 1) rfl ?_); refine boxE (N := 1) (cs := #[.int .i64 a0_0, .int .i64 a0_1, .slice A0_2 l0_2.length c0_2]) (t := 24) ?_; intro gb155 hg w36 hbox hb; have BK155 := Aside0.mk (hbox); have GW155 := Aside0.mk ((szA hg HB.out : w.heap.size ≤ gb155)); have GE155 := Aside0.mk ((szA hg HB.out : w.heap.size ≤ gb155)); replace HB := Aside0.mk (below_step (belA HB.out) hb); clear hb hbox hg) | ((with_reducible refine gate_dst (N := 2) rfl ?_); refine boxE (N := 2) (cs := #[.int .i64 0, .int .i64 0, .slice none 0 0]) (t := 69) ?_; intro gb156 hg w37 hbox hb; have BK156 := Aside0.mk (hbox); have GW156 := Aside0.mk ((szA hg HB.out : w.heap.size ≤ gb156)); have GE156 := Aside0.mk ((szA hg HB.out : w.heap.size ≤ gb156)); have NB155_156 := Aside0.mk ((neL hg BK155.out : gb155 ≠ gb156)); have NB156_155 := Aside0.mk ((neG hg BK155.out : gb156 ≠ gb155)); replace BK155 := Aside0.mk (blk_below (g := gb155) (o := .cells #[.int .i64 a0_0, .int .i64 a0_1, .slice A0_2 l0_2.length c0_2] 24 (0, 0)) (blkA BK155.out) hb); replace HB := Aside0.mk (below_step (belA HB.out) hb); clear hb hbox hg; have hnb38 := NB155_156.out; have hnc38 := NB156_155.out; obtain ⟨hcz39_0, hcz39_1, hcz39_2, hfz39_0, hfz39_1, hfz39_2⟩ := bk3 BK155.out) | ((with_reducible refine gate_callee (f := 73) rfl ?_); refine goesL_ (some 7) rfl rfl Try.func73 (by kernel_rfl) rfl #[.agg #[.int .i64 a0_0, .int .i64 a0_1, .slice A0_2 l0_2.length c0_2]] rfl argA ?_; (with_reducible refine (qrlayout_valid.calls a0_0 a0_1 _ _ l0_2 true _ ?side1 ?side2 A2.out).mono ?_); (case side1 => exact lowA (Kd.C_below HR0_2.out HB.out)); (case side2 => exact HC0_2.out); rintro e w40 ⟨rfl, hb⟩; refine ⟨_, rfl, ?_⟩; replace BK155 := Aside0.mk (blk_below (g := gb155) (o := .cells #[.int .i64 a0_0, .int .i64 a0_1, .slice A0_2 l0_2.length c0_2] 24 (0, 0)) (blkA BK155.out) hb); replace BK156 := Aside0.mk (blk_below (g := gb156) (o := .cells #[.int .i64 0, .int .i64 0, .slice none 0 0] 69 (0, 0)) (blkA BK156.out) hb); replace HB := Aside0.mk (below_step (belA HB.out) hb); (try clear hb); (try clear hb2); (try clear hk); (try clear hi); obtain ⟨hcz41_0, hcz41_1, hcz41_2, hfz41_0, hfz41_1, hfz41_2⟩ := bk3 BK155.out) | ((with_reducible refine gate_callee (f := 36) rfl ?_); refine goesL_ (some 15) rfl rfl Try.func36 (by kernel_rfl) rfl #[.int .i64 (wrap64 (Int.tdiv (wrap64 (a0_0 - 17)) 4))] rfl argA ?_; (with_reducible refine (qrlayout_frameOf.calls k (wrap64 (Int.tdiv (wrap64 (a0_0 - 17)) 4)) t158 t159 t160 t163 _ A4.out).mono ?_); rintro e w42 ⟨v161, rfl, ho0, hb⟩; refine ⟨_, rfl, ?_⟩; have HO162 := Aside0.mk (Kd.R_lower ho0 (below_size (belA HB.out))); replace BK155 := Aside0.mk (blk_below (g := gb155) (o := .cells #[.int .i64 a0_0, .int .i64 a0_1, .slice A0_2 l0_2.length c0_2] 24 (0, 0)) (blkA BK155.out) hb); replace BK156 := Aside0.mk (blk_below (g := gb156) (o := .cells #[.int .i64 0, .int .i64 0, .slice none 0 0] 69 (0, 0)) (blkA BK156.out) hb); replace HB := Aside0.mk (below_step (belA HB.out) hb); (try clear hb); (try clear hb2); (try clear hk); (try clear hi); (try clear ho0)) | ((with_reducible refine gate_dst (N := 4) rfl ?_); refine boxE (N := 4) (cs := #[.int .i64 0, .int .i64 0, .slice none 0 0]) (t := 69) ?_; intro gb164 hg w43 hbox hb; have BK164 := Aside0.mk (hbox); have GW164 := Aside0.mk ((szA hg HB.out : w.heap.size ≤ gb164)); have GE164 := Aside0.mk ((szA hg HB.out : w.heap.size ≤ gb164)); have NB155_164 := Aside0.mk ((neL hg BK155.out : gb155 ≠ gb164)); have NB164_155 := Aside0.mk ((neG hg BK155.out : gb164 ≠ gb155)); have NB156_164 := Aside0.mk ((neL hg BK156.out : gb156 ≠ gb164)); have NB164_156 := Aside0.mk ((neG hg BK156.out : gb164 ≠ gb156)); replace HO162 := Aside0.mk (Kd.R_below (rowA HO162.out) hb); replace BK155 := Aside0.mk (blk_below (g := gb155) (o := .cells #[.int .i64 a0_0, .int .i64 a0_1, .slice A0_2 l0_2.length c0_2] 24 (0, 0)) (blkA BK155.out) hb); replace BK156 := Aside0.mk (blk_below (g := gb156) (o := .cells #[.int .i64 0, .int .i64 0, .slice none 0 0] 69 (0, 0)) (blkA BK156.out) hb); replace HB := Aside0.mk (below_step (belA HB.out) hb); clear hb hbox hg; have hnb44 := NB164_155.out; have hnc44 := NB155_164.out; have hnb45 := NB164_156.out; have hnc45 := NB156_164.out; obtain ⟨hcz46_0, hcz46_1, hcz46_2, hfz46_0, hfz46_1, hfz46_2⟩ := bk3 BK164.out; obtain ⟨Ao47, co47, eo47⟩ := Kd.R_slice HO162.out; subst eo47; obtain ⟨hcz48_0, hcz48_1, hcz48_2, hfz48_0, hfz48_1, hfz48_2⟩ := bk3 BK155.out; obtain ⟨hcz49_0, hcz49_1, hcz49_2, hfz49_0, hfz49_1, hfz49_2⟩ := bk3 BK156.out))
    refine bodyPost_ret (results_ct rfl _ _ gb156 69 #[.int .i64 0, .int .i64 0, .slice none 0 0] (0, 0) _ rfl (blkB BK156.out) Try.underlying69 rfl (by kernel_rfl)) rfl ?_
    exact ⟨_, errA, nilA, belA HB.out⟩
  ·rw [if_neg c5] at H
   have c5b0 : (t163 == 0) = false := beq_eq_false_iff_ne.mpr c5
   have c5b1 : (t163 != 0) = true := bne_iff_ne.mpr c5
   simp only [Option.some.injEq, Prod.mk.injEq] at H
   obtain ⟨rfl, rfl, rfl, rfl⟩ := H
   go_enter Try.func40, Try.ntmps40
   go_wp2_with (first | ((with_reducible refine gate_dst (N := 1) rfl ?_); refine boxE (N := 1) (cs := #[.int .i64 a0_0, .int .i64 a0_1, .slice A0_2 l0_2.length c0_2]) (t := 24) ?_; intro gb155 hg w50 hbox hb; have BK155 := Aside0.mk (hbox); have GW155 := Aside0.mk ((szA hg HB.out : w.heap.size ≤ gb155)); have GE155 := Aside0.mk ((szA hg HB.out : w.heap.size ≤ gb155)); replace HB := Aside0.mk (below_step (belA HB.out) hb); clear hb hbox hg) | ((with_reducible refine gate_dst (N := 2) rfl ?_); refine boxE (N := 2) (cs := #[.int .i64 0, .int .i64 0, .slice none 0 0]) (t := 69) ?_; intro gb156 hg w51 hbox hb; have BK156 := Aside0.mk (hbox); have GW156 := Aside0.mk ((szA hg HB.out : w.heap.size ≤ gb156)); have GE156 := Aside0.mk ((szA hg HB.out : w.heap.size ≤ gb156)); have NB155_156 := Aside0.mk ((neL hg BK155.out : gb155 ≠ gb156)); have NB156_155 := Aside0.mk ((neG hg BK155.out : gb156 ≠ gb155)); replace BK155 := Aside0.mk (blk_below (g := gb155) (o := .cells #[.int .i64 a0_0, .int .i64 a0_1, .slice A0_2 l0_2.length c0_2] 24 (0, 0)) (blkA BK155.out) hb); replace HB := Aside0.mk (below_step (belA HB.out) hb); clear hb hbox hg; have hnb52 := NB155_156.out; have hnc52 := NB156_155.out; obtain ⟨hcz53_0, hcz53_1, hcz53_2, hfz53_0, hfz53_1, hfz53_2⟩ := bk3 BK155.out) | ((with_reducible refine gate_callee (f := 73) rfl ?_); refine goesL_ (some 7) rfl rfl Try.func73 (by kernel_rfl) rfl #[.agg #[.int .i64 a0_0, .int .i64 a0_1, .slice A0_2 l0_2.length c0_2]] rfl argA ?_; (with_reducible refine (qrlayout_valid.calls a0_0 a0_1 _ _ l0_2 true _ ?side1 ?side2 A2.out).mono ?_); (case side1 => exact lowA (Kd.C_below HR0_2.out HB.out)); (case side2 => exact HC0_2.out); rintro e w54 ⟨rfl, hb⟩; refine ⟨_, rfl, ?_⟩; replace BK155 := Aside0.mk (blk_below (g := gb155) (o := .cells #[.int .i64 a0_0, .int .i64 a0_1, .slice A0_2 l0_2.length c0_2] 24 (0, 0)) (blkA BK155.out) hb); replace BK156 := Aside0.mk (blk_below (g := gb156) (o := .cells #[.int .i64 0, .int .i64 0, .slice none 0 0] 69 (0, 0)) (blkA BK156.out) hb); replace HB := Aside0.mk (below_step (belA HB.out) hb); (try clear hb); (try clear hb2); (try clear hk); (try clear hi); obtain ⟨hcz55_0, hcz55_1, hcz55_2, hfz55_0, hfz55_1, hfz55_2⟩ := bk3 BK155.out) | ((with_reducible refine gate_callee (f := 36) rfl ?_); refine goesL_ (some 15) rfl rfl Try.func36 (by kernel_rfl) rfl #[.int .i64 (wrap64 (Int.tdiv (wrap64 (a0_0 - 17)) 4))] rfl argA ?_; (with_reducible refine (qrlayout_frameOf.calls k (wrap64 (Int.tdiv (wrap64 (a0_0 - 17)) 4)) t158 t159 t160 t163 _ A4.out).mono ?_); rintro e w56 ⟨v161, rfl, ho0, hb⟩; refine ⟨_, rfl, ?_⟩; have HO162 := Aside0.mk (Kd.R_lower ho0 (below_size (belA HB.out))); replace BK155 := Aside0.mk (blk_below (g := gb155) (o := .cells #[.int .i64 a0_0, .int .i64 a0_1, .slice A0_2 l0_2.length c0_2] 24 (0, 0)) (blkA BK155.out) hb); replace BK156 := Aside0.mk (blk_below (g := gb156) (o := .cells #[.int .i64 0, .int .i64 0, .slice none 0 0] 69 (0, 0)) (blkA BK156.out) hb); replace HB := Aside0.mk (below_step (belA HB.out) hb); (try clear hb); (try clear hb2); (try clear hk); (try clear hi); (try clear ho0)) | ((with_reducible refine gate_dst (N := 4) rfl ?_); refine boxE (N := 4) (cs := #[.int .i64 0, .int .i64 0, .slice none 0 0]) (t := 69) ?_; intro gb164 hg w57 hbox hb; have BK164 := Aside0.mk (hbox); have GW164 := Aside0.mk ((szA hg HB.out : w.heap.size ≤ gb164)); have GE164 := Aside0.mk ((szA hg HB.out : w.heap.size ≤ gb164)); have NB155_164 := Aside0.mk ((neL hg BK155.out : gb155 ≠ gb164)); have NB164_155 := Aside0.mk ((neG hg BK155.out : gb164 ≠ gb155)); have NB156_164 := Aside0.mk ((neL hg BK156.out : gb156 ≠ gb164)); have NB164_156 := Aside0.mk ((neG hg BK156.out : gb164 ≠ gb156)); replace HO162 := Aside0.mk (Kd.R_below (rowA HO162.out) hb); replace BK155 := Aside0.mk (blk_below (g := gb155) (o := .cells #[.int .i64 a0_0, .int .i64 a0_1, .slice A0_2 l0_2.length c0_2] 24 (0, 0)) (blkA BK155.out) hb); replace BK156 := Aside0.mk (blk_below (g := gb156) (o := .cells #[.int .i64 0, .int .i64 0, .slice none 0 0] 69 (0, 0)) (blkA BK156.out) hb); replace HB := Aside0.mk (below_step (belA HB.out) hb); clear hb hbox hg; have hnb58 := NB164_155.out; have hnc58 := NB155_164.out; have hnb59 := NB164_156.out; have hnc59 := NB156_164.out; obtain ⟨hcz60_0, hcz60_1, hcz60_2, hfz60_0, hfz60_1, hfz60_2⟩ := bk3 BK164.out; obtain ⟨Ao61, co61, eo61⟩ := Kd.R_slice HO162.out; subst eo61; obtain ⟨hcz62_0, hcz62_1, hcz62_2, hfz62_0, hfz62_1, hfz62_2⟩ := bk3 BK156.out))
   refine bodyPost_ret (results_ct rfl _ _ gb156 69 #[.int .i64 0, .int .i64 0, .slice none 0 0] (0, 0) _ rfl (blkB BK156.out) Try.underlying69 rfl (by kernel_rfl)) rfl ?_
   exact ⟨_, errA, nilA, belA HB.out⟩
 ·replace c3 := Bool.eq_false_iff.mpr c3
  subst c3
  have H1 : (some (0, 0, ([] : List Int), 1)) = some (r1, r2, r3, r4) := by rw [if_neg (show ¬ (false = true) by decide)] at H; exact H
  clear H
  have H := H1
  clear H1
  simp only [Option.some.injEq, Prod.mk.injEq] at H
  obtain ⟨rfl, rfl, rfl, rfl⟩ := H
  go_enter Try.func40, Try.ntmps40
  go_wp2_with (first | ((with_reducible refine gate_dst (N := 1) rfl ?_); refine boxE (N := 1) (cs := #[.int .i64 a0_0, .int .i64 a0_1, .slice A0_2 l0_2.length c0_2]) (t := 24) ?_; intro gb155 hg w63 hbox hb; have BK155 := Aside0.mk (hbox); have GW155 := Aside0.mk ((szA hg HB.out : w.heap.size ≤ gb155)); have GE155 := Aside0.mk ((szA hg HB.out : w.heap.size ≤ gb155)); replace HB := Aside0.mk (below_step (belA HB.out) hb); clear hb hbox hg) | ((with_reducible refine gate_dst (N := 2) rfl ?_); refine boxE (N := 2) (cs := #[.int .i64 0, .int .i64 0, .slice none 0 0]) (t := 69) ?_; intro gb156 hg w64 hbox hb; have BK156 := Aside0.mk (hbox); have GW156 := Aside0.mk ((szA hg HB.out : w.heap.size ≤ gb156)); have GE156 := Aside0.mk ((szA hg HB.out : w.heap.size ≤ gb156)); have NB155_156 := Aside0.mk ((neL hg BK155.out : gb155 ≠ gb156)); have NB156_155 := Aside0.mk ((neG hg BK155.out : gb156 ≠ gb155)); replace BK155 := Aside0.mk (blk_below (g := gb155) (o := .cells #[.int .i64 a0_0, .int .i64 a0_1, .slice A0_2 l0_2.length c0_2] 24 (0, 0)) (blkA BK155.out) hb); replace HB := Aside0.mk (below_step (belA HB.out) hb); clear hb hbox hg; have hnb65 := NB155_156.out; have hnc65 := NB156_155.out; obtain ⟨hcz66_0, hcz66_1, hcz66_2, hfz66_0, hfz66_1, hfz66_2⟩ := bk3 BK155.out) | ((with_reducible refine gate_callee (f := 73) rfl ?_); refine goesL_ (some 7) rfl rfl Try.func73 (by kernel_rfl) rfl #[.agg #[.int .i64 a0_0, .int .i64 a0_1, .slice A0_2 l0_2.length c0_2]] rfl argA ?_; (with_reducible refine (qrlayout_valid.calls a0_0 a0_1 _ _ l0_2 false _ ?side1 ?side2 A2.out).mono ?_); (case side1 => exact lowA (Kd.C_below HR0_2.out HB.out)); (case side2 => exact HC0_2.out); rintro e w67 ⟨rfl, hb⟩; refine ⟨_, rfl, ?_⟩; replace BK155 := Aside0.mk (blk_below (g := gb155) (o := .cells #[.int .i64 a0_0, .int .i64 a0_1, .slice A0_2 l0_2.length c0_2] 24 (0, 0)) (blkA BK155.out) hb); replace BK156 := Aside0.mk (blk_below (g := gb156) (o := .cells #[.int .i64 0, .int .i64 0, .slice none 0 0] 69 (0, 0)) (blkA BK156.out) hb); replace HB := Aside0.mk (below_step (belA HB.out) hb); (try clear hb); (try clear hb2); (try clear hk); (try clear hi); obtain ⟨hcz68_0, hcz68_1, hcz68_2, hfz68_0, hfz68_1, hfz68_2⟩ := bk3 BK156.out))
  refine bodyPost_ret (results_ct rfl _ _ gb156 69 #[.int .i64 0, .int .i64 0, .slice none 0 0] (0, 0) _ rfl (blkB BK156.out) Try.underlying69 rfl (by kernel_rfl)) rfl ?_
  exact ⟨_, errA, nilA, belA HB.out⟩

end Go.Proofs.Ytbbnagjfjgkgjaa.L
