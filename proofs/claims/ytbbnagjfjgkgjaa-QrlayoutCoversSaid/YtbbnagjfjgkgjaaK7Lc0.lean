-- Written by a program of this session out of the kit's print of the loaded functions (see wip/).
import Derived.Test.YtbbnagjfjgkgjaaK7Lx0
import Derived.Test.YtbbnagjfjgkgjaaK7Lx2
import Derived.Test.YtbbnagjfjgkgjaaK7Lx3
namespace Go.Proofs.Ytbbnagjfjgkgjaa.L
open Go.RowKit Go.Proofs.YtbbnagjfjgkgjaaW.PrintWords Go.Proofs.YtbbnagjfjgkgjaaW.PrintLast Go.Proofs.YtbbnagjfjgkgjaaW.PrintMore
attribute [local go_sem] max2_int min2_int max_two min_two max_three min_three max_four min_four   -- for this text's walks alone
set_option linter.unusedVariables false
set_option linter.unusedSimpArgs false

mutual
def qrlayout_Cells.l0 : Nat → List Int → Int → Int → Int → Int → List Int → Option (List Int × Int)
 | 0, _, _, _, _, _, _ => none
 | k + 1, x6, x18, x19, x486000, x486001, x486002 => if x19 < x18 then (qrlayout_Cells.l1 k x6 x19 x18 x19 x486001 0 x486000 x486001 x486002) else (some (x6, 0))
def qrlayout_Cells.l1 : Nat → List Int → Int → Int → Int → Int → Int → Int → Int → List Int → Option (List Int × Int)
 | 0, _, _, _, _, _, _, _, _, _ => none
 | k + 1, x6, x7, x18, x19, x23, x24, x486000, x486001, x486002 => if x24 < x23 then ((qrlayout_frame_cell.f k x486000 x486001 x486002 x24 x7).bind fun t486 => (if x6.length < 17592186044416 then (qrlayout_Cells.l1 k (x6 ++ [t486]) x7 x18 x19 x23 (wrap64 (x24 + 1)) x486000 x486001 x486002) else (none))) else (qrlayout_Cells.l0 k x6 x18 (wrap64 (x19 + 1)) x486000 x486001 x486002)
end
def qrlayout_Cells.f (k : Nat) (a0 : Int) : Option (List Int × Int) := (qrlayout_frameOf.f k a0).bind fun bt479 => (if bt479.2.2.2 = 0 then (qrlayout_Cells.l0 k ([] : List Int) bt479.2.1 0 bt479.1 bt479.2.1 bt479.2.2.1) else (some (([] : List Int), bt479.2.2.2)))
set_option maxHeartbeats 8000000 in
set_option maxRecDepth 100000 in
theorem qrlayout_Cells.calls (k : Nat) (a0 : Int) (r1 : List Int) (r2 : Int) (w : World) (h : qrlayout_Cells.f k a0 = some (r1, r2)) :
  Calls Try.prog 23 #[.int .i64 a0] w fun e w' => ∃ v0_ : Value, e = .returned (.tuple #[v0_, .int .i64 r2]) ∧ Kd.R (Kd.int .i64) 55 w' w.heap.size (fun _ => True) v0_ r1 ∧ Below w.heap.size w w' := by
 have hu69 := Try.underlying69
 have HB := Aside0.mk (Below.refl w.heap.size w)
 have H : ((qrlayout_frameOf.f k a0).bind fun bt479 => (if bt479.2.2.2 = 0 then (qrlayout_Cells.l0 k ([] : List Int) bt479.2.1 0 bt479.1 bt479.2.1 bt479.2.2.1) else (some (([] : List Int), bt479.2.2.2)))) = some (r1, r2) := h
 clear h
 replace H := Option.bind_eq_some_iff.mp H
 obtain ⟨⟨t479, t480, t481, t484⟩, A20, H⟩ := H
 replace H : (if t484 = 0 then (qrlayout_Cells.l0 k ([] : List Int) t480 0 t479 t480 t481) else (some (([] : List Int), t484))) = some (r1, r2) := H
 have A2 := Aside0.mk A20
 clear A20
 by_cases c3 : t484 = 0
 ·rw [if_pos c3] at H
  have c3b0 : (t484 == 0) = true := beq_iff_eq.mpr c3
  have c3b1 : (t484 != 0) = false := bne_eq_false_iff_eq.mpr c3
  clear c3
  have H' := Aside0.mk H
  clear H
  go_enter Try.func23, Try.ntmps23
  go_wp2_with (first | ((with_reducible refine gate_callee (f := 36) rfl ?_); refine goesL_ (some 11) rfl rfl Try.func36 (by kernel_rfl) rfl #[.int .i64 a0] rfl (by (try simp only [List.map_toArray, List.map_cons, List.map_nil]); first | done | rfl | (simp only [List.length_drop, List.length_take]; rfl)) ?_; (with_reducible refine (qrlayout_frameOf.calls k a0 t479 t480 t481 t484 _ A2.out).mono ?_); rintro e w4 ⟨v482, rfl, ho0, hb⟩; refine ⟨_, rfl, ?_⟩; have n0_ := Aside0.mk (Kd.R_lower ho0 (below_size (belA HB.out))); have n1_ := Aside0.mk (below_step (belA HB.out) hb); clear HB; have HO483 := n0_; have HB := n1_; clear n0_ n1_; (try clear hb); (try clear hb2); (try clear hk); (try clear hi); (try clear ho0)) | ((with_reducible refine gate_dst (N := 4) rfl ?_); refine box_event ?hg (N := 4) ?hd (cs := #[.int .i64 0, .int .i64 0, .slice none 0 0]) (t := 69) ?hr ?_; (case hd => rfl); (case hg => rfl); (case hr => first | (go_simp; done) | (go_simp; rfl)); intro gb485 hg w5 hbox hb; have n0_ := Aside0.mk (Kd.R_below (rowA HO483.out) hb); have n1_ := Aside0.mk (below_step (belA HB.out) hb); have n2_ := Aside0.mk (hbox); have n3_ := Aside0.mk ((by rw [hg]; exact (below_size (belA HB.out)) : w.heap.size ≤ gb485)); have n4_ := Aside0.mk ((by rw [hg]; exact (below_size (belA HB.out)) : w.heap.size ≤ gb485)); clear HO483; clear HB; have HO483 := n0_; have HB := n1_; have BK485 := n2_; have GW485 := n3_; have GE485 := n4_; clear n0_ n1_ n2_ n3_ n4_; clear hb hbox hg; have hcz6_0 : w5.cell? ⟨gb485, 0, none⟩ = some (.int .i64 0) := (blk_cell BK485.out 0).trans rfl; have hcz6_1 : w5.cell? ⟨gb485, 1, none⟩ = some (.int .i64 0) := (blk_cell BK485.out 1).trans rfl; have hcz6_2 : w5.cell? ⟨gb485, 2, none⟩ = some (.slice none 0 0) := (blk_cell BK485.out 2).trans rfl; have hfz6_0 := blk_frozen BK485.out 0; have hfz6_1 := blk_frozen BK485.out 1; have hfz6_2 := blk_frozen BK485.out 2; obtain ⟨Ao7, co7, eo7⟩ := Kd.R_slice HO483.out; subst eo7))
  go_loopg [6, 19] k (fun kq v6 v19 w' => ∃ (x6_1 : List Int) (x19_1 : Int), v19 = .int .i64 x19_1 ∧ Aside0 (qrlayout_Cells.l0 kq x6_1 t480 x19_1 t479 t480 t481 = some (r1, r2)) ∧ Aside0 (kq ≤ k) ∧ Aside0 (Kd.R (Kd.int .i64) 55 w' w.heap.size (fun _ => True) v6 x6_1) ∧ Aside0 (Kd.R (Kd.int .i64) 3 w' w.heap.size (fun _ => True) (.slice Ao7 t481.length co7) t481) ∧ Aside0 (w'.heap[gb485]? = some (.cells #[.int .i64 t479, .int .i64 t480, (.slice Ao7 t481.length co7)] 69 (0, 0))) ∧ Aside0 (Below w.heap.size w w'))
  case atStart => exact ⟨(([] : List Int)), (0), (by first | rfl | (simp; done) | (simp [*]; done)), H', ⟨Nat.le_refl _⟩, ⟨by first | exact Kd.R_nil _ _ _ _ _ | exact Kd.N_nil _ _ _ _ _ | exact Kd.V_nil _ _ _ _ _ | exact Kd.Q_nil _ _ _ _ _ | exact Kd.S_nil _ _ _ _ _⟩, ⟨by (with_reducible repeat (first | apply Kd.R_alloc | apply Kd.R_drewN | apply Kd.R_drew)); exact Kd.R_mono (Kd.R_far (p := ⟨gb485, 2, none⟩) (Kd.R_far (p := ⟨gb485, 1, none⟩) (Kd.R_far (p := ⟨gb485, 0, none⟩) (Kd.R_types HO483.out BK485.out (by decide)) (fun _ hk => hk.2) (.int .i64 t479)) (fun _ hk => hk.2) (.int .i64 t480)) (fun _ hk => hk.2) (.slice Ao7 t481.length co7)) (fun _ hk => trivial)⟩, ⟨by (with_reducible repeat (first | refine blk_drewN ?_ _ | refine blk_drew ?_ | refine blk_alloc ?_ _)); refine blk_put (cs := #[.int .i64 t479, .int .i64 t480, .slice none 0 0]) ?_ 2 _ rfl; (with_reducible repeat (first | refine blk_drewN ?_ _ | refine blk_drew ?_ | refine blk_alloc ?_ _)); refine blk_put (cs := #[.int .i64 t479, .int .i64 0, .slice none 0 0]) ?_ 1 _ rfl; (with_reducible repeat (first | refine blk_drewN ?_ _ | refine blk_drew ?_ | refine blk_alloc ?_ _)); refine blk_put (cs := #[.int .i64 0, .int .i64 0, .slice none 0 0]) ?_ 0 _ rfl; (with_reducible repeat (first | refine blk_drewN ?_ _ | refine blk_drew ?_ | refine blk_alloc ?_ _)); exact BK485.out⟩, ⟨belA HB.out⟩⟩
  case round =>
   clear H'
   try clear c2
   try clear p2
   try clear c3
   try clear c3b0
   try clear c3b1
   try clear hcz6_0
   try clear hcz6_1
   try clear hcz6_2
   try clear hfz6_0
   try clear hfz6_1
   try clear hfz6_2
   obtain ⟨x6_1, x19_1, rfl, HA, HK1, HO_6, HO_486002, BK485, HB⟩ := hrel
   cases gk with
   | zero => exact absurd HA.out (by simp [qrlayout_Cells.l0])
   | succ k1 =>
    have H := HA.out
    clear HA
    simp only [qrlayout_Cells.l0] at H
    by_cases c8 : x19_1 < t480
    ·rw [if_pos c8] at H
     have c8b0 : decide (x19_1 < t480) = true := decide_eq_true c8
     clear c8
     have H' := Aside0.mk H
     clear H
     have hcz9_0 : wr.cell? ⟨gb485, 0, none⟩ = some (.int .i64 t479) := (blk_cell BK485.out 0).trans rfl
     have hcz9_1 : wr.cell? ⟨gb485, 1, none⟩ = some (.int .i64 t480) := (blk_cell BK485.out 1).trans rfl
     have hcz9_2 : wr.cell? ⟨gb485, 2, none⟩ = some (.slice Ao7 t481.length co7) := (blk_cell BK485.out 2).trans rfl
     have hfz9_0 := blk_frozen BK485.out 0
     have hfz9_1 := blk_frozen BK485.out 1
     have hfz9_2 := blk_frozen BK485.out 2
     go_wp2
     go_loopg [6, 24] k1 (fun kq v6 v24 w' => ∃ (x6_2 : List Int) (x24_2 : Int), v24 = .int .i64 x24_2 ∧ Aside0 (qrlayout_Cells.l1 kq x6_2 x19_1 t480 x19_1 t480 x24_2 t479 t480 t481 = some (r1, r2)) ∧ Aside0 (kq ≤ k1) ∧ Aside0 (Kd.R (Kd.int .i64) 55 w' w.heap.size (fun _ => True) v6 x6_2) ∧ Aside0 (Kd.R (Kd.int .i64) 3 w' w.heap.size (fun _ => True) (.slice Ao7 t481.length co7) t481) ∧ Aside0 (w'.heap[gb485]? = some (.cells #[.int .i64 t479, .int .i64 t480, (.slice Ao7 t481.length co7)] 69 (0, 0))) ∧ Aside0 (Below w.heap.size w w'))
     case atStart => exact ⟨(x6_1), (0), (by first | rfl | (simp; done) | (simp [*]; done)), H', ⟨Nat.le_refl _⟩, ⟨rowA HO_6.out⟩, ⟨rowA HO_486002.out⟩, ⟨blkA BK485.out⟩, ⟨belA HB.out⟩⟩
     case round =>
      clear H'
      try clear c2
      try clear p2
      try clear c3
      try clear c3b0
      try clear c3b1
      try clear c8
      try clear c8b0
      try clear hcz6_0
      try clear hcz6_1
      try clear hcz6_2
      try clear hcz9_0
      try clear hcz9_1
      try clear hcz9_2
      try clear hfz6_0
      try clear hfz6_1
      try clear hfz6_2
      try clear hfz9_0
      try clear hfz9_1
      try clear hfz9_2
      try clear p2
      obtain ⟨x6_2, x24_2, rfl, HA, HK2, HO_6, HO_486002, BK485, HB⟩ := hrel
      cases gk with
      | zero => exact absurd HA.out (by simp [qrlayout_Cells.l1])
      | succ k2 =>
       have H := HA.out
       clear HA
       simp only [qrlayout_Cells.l1] at H
       by_cases c10 : x24_2 < t480
       ·rw [if_pos c10] at H
        have c10b0 : decide (x24_2 < t480) = true := decide_eq_true c10
        clear c10
        replace H := Option.bind_eq_some_iff.mp H
        obtain ⟨t486, A110, H⟩ := H
        replace H : (if x6_2.length < 17592186044416 then (qrlayout_Cells.l1 k2 (x6_2 ++ [t486]) x19_1 t480 x19_1 t480 (wrap64 (x24_2 + 1)) t479 t480 t481) else (none)) = some (r1, r2) := H
        have A11 := Aside0.mk A110
        clear A110
        by_cases c12 : x6_2.length < 17592186044416
        ·rw [if_pos c12] at H
         have LMc12 := Aside0.mk c12
         clear c12
         obtain ⟨y487, hy487⟩ : ∃ y_ : List Int, y_ = (x6_2 ++ [t486]) := ⟨_, rfl⟩
         replace H : (qrlayout_Cells.l1 k2 y487 x19_1 t480 x19_1 t480 (wrap64 (x24_2 + 1)) t479 t480 t481) = some (r1, r2) := by first | (rw [hy487]; with_reducible exact H) | (have H2_ := (Option.bind_some _ _).symm.trans H; rw [hy487]; with_reducible exact H2_) | (have H2_ := (Option.bind_some _ _).symm.trans H; with_reducible exact H2_) | with_reducible exact H | (rw [hy487]; exact H) | exact H
         have Ny487 := Aside0.mk hy487
         clear hy487
         have H' := Aside0.mk H
         clear H
         have hcz13_0 : wr.cell? ⟨gb485, 0, none⟩ = some (.int .i64 t479) := (blk_cell BK485.out 0).trans rfl
         have hcz13_1 : wr.cell? ⟨gb485, 1, none⟩ = some (.int .i64 t480) := (blk_cell BK485.out 1).trans rfl
         have hcz13_2 : wr.cell? ⟨gb485, 2, none⟩ = some (.slice Ao7 t481.length co7) := (blk_cell BK485.out 2).trans rfl
         have hfz13_0 := blk_frozen BK485.out 0
         have hfz13_1 := blk_frozen BK485.out 1
         have hfz13_2 := blk_frozen BK485.out 2
         go_wp2_with (first | ((with_reducible refine gate_callee (f := 41) rfl ?_); refine goesL_ (some 31) rfl rfl Try.func41 (by kernel_rfl) rfl #[.agg #[.int .i64 t479, .int .i64 t480, .slice Ao7 t481.length co7], .int .i64 x24_2, .int .i64 x19_1] rfl (by (try simp only [List.map_toArray, List.map_cons, List.map_nil]); first | done | rfl | (simp only [List.length_drop, List.length_take]; rfl)) ?_; (with_reducible refine (qrlayout_frame_cell.calls k2 t479 t480 _ _ t481 x24_2 x19_1 t486 _ ?side1 ?side2 A11.out).mono ?_); (case side1 => repeat (first | exact (Kd.R_reads' HO_486002.out).2.2 | (with_reducible refine Kd.C_alloc ?_ _) | (with_reducible refine Kd.C_drewN ?_ _) | (with_reducible refine Kd.C_drew ?_))); (case side2 => exact (Kd.R_reads' HO_486002.out).2.1); rintro e w14 ⟨rfl, hb⟩; refine ⟨_, rfl, ?_⟩; have n0_ := Aside0.mk (Kd.R_below (rowA HO_6.out) hb); have n1_ := Aside0.mk (Kd.R_below (rowA HO_486002.out) hb); have n2_ := Aside0.mk (blk_below (g := gb485) (o := .cells #[.int .i64 t479, .int .i64 t480, .slice Ao7 t481.length co7] 69 (0, 0)) (blkA BK485.out) hb); have n3_ := Aside0.mk (below_step (belA HB.out) hb); clear HO_6; clear HO_486002; clear BK485; clear HB; have HO_6 := n0_; have HO_486002 := n1_; have BK485 := n2_; have HB := n3_; clear n0_ n1_ n2_ n3_; (try clear hb); (try clear hb2); (try clear hk); (try clear hi)) | ((with_reducible refine gate_builtin (b := .append) (xs := #[.tmp 27, .tmp 32]) rfl ?_); at_builtin; refine Kd.R_append (Kd.int .i64) (w0 := w) w.heap.size rfl (.tmp 27) (.tmp 32) 48 55 (.int .i64 0) 8 rfl Try.underlying48 info55 rfl (by decide) (by omega) u6 x6_2 t486 [.int .i64 t486] (fun _ => True) (fun _ => False) rfl rfl ?aP (fun _ hk => hk.elim) ?aF ?aO ?aB ?aS ?aL ?_; (case aP => exact rfl); (case aB => exact (belA HB.out)); (case aF => exact (fun _ _ => trivial)); (case aO => exact (rowA HO_6.out)); (case aS => exact (below_size (belA HB.out))); (case aL => have := LMc12.out; omega); intro v488 w15 ho hb hg hat; rw [← Ny487.out] at ho; have n0_ := Aside0.mk (Kd.R_over' (rowA HO_486002.out) (Kd.R_typed (rowA HO_6.out)) (by decide) hg); have n1_ := Aside0.mk (blk_grown (g := gb485) (o := .cells #[.int .i64 t479, .int .i64 t480, .slice Ao7 t481.length co7] 69 (0, 0)) (blkA BK485.out) hg (Kd.R_ne HO_6.out BK485.out (by decide))); have n2_ := Aside0.mk (hb); have n3_ := Aside0.mk (ho); clear HO_486002; clear BK485; clear HB; clear HO_6; have HO_486002 := n0_; have BK485 := n1_; have HB := n2_; have HO489 := n3_; clear n0_ n1_ n2_ n3_; clear ho hb hg hat))
         go_roundg k2
         case measure => have := HK1.out; have := HK2.out; omega
         case rel => exact ⟨(y487), (wrap64 (x24_2 + 1)), (by first | rfl | (simp; done) | (simp [*]; done)), H', ⟨by have := HK1.out; have := HK2.out; omega⟩, ⟨rowA HO489.out⟩, ⟨rowA HO_486002.out⟩, ⟨blkA BK485.out⟩, ⟨belA HB.out⟩⟩
        ·rw [if_neg c12] at H
         exact absurd H (by simp)
       ·rw [if_neg c10] at H
        have c10b0 : decide (x24_2 < t480) = false := decide_eq_false c10
        clear c10
        have H' := Aside0.mk H
        clear H
        go_wp2
        go_roundg k2
        case measure => have := HK1.out; have := HK2.out; omega
        case rel => exact ⟨(x6_2), (wrap64 (x19_1 + 1)), (by first | rfl | (simp; done) | (simp [*]; done)), H', ⟨by have := HK1.out; have := HK2.out; omega⟩, ⟨rowA HO_6.out⟩, ⟨rowA HO_486002.out⟩, ⟨blkA BK485.out⟩, ⟨belA HB.out⟩⟩
    ·rw [if_neg c8] at H
     have c8b0 : decide (x19_1 < t480) = false := decide_eq_false c8
     clear c8
     simp only [Option.some.injEq, Prod.mk.injEq] at H
     obtain ⟨rfl, rfl⟩ := H
     go_wp2
     go_ret2
     exact ⟨_, by first | rfl | (simp [errW_none, errW_some] <;> rfl) | (simp [*, errW_none, errW_some] <;> rfl), rowA HO_6.out, belA HB.out⟩
 ·rw [if_neg c3] at H
  have c3b0 : (t484 == 0) = false := beq_eq_false_iff_ne.mpr c3
  have c3b1 : (t484 != 0) = true := bne_iff_ne.mpr c3
  simp only [Option.some.injEq, Prod.mk.injEq] at H
  obtain ⟨rfl, rfl⟩ := H
  go_enter Try.func23, Try.ntmps23
  go_wp2_with (first | ((with_reducible refine gate_callee (f := 36) rfl ?_); refine goesL_ (some 11) rfl rfl Try.func36 (by kernel_rfl) rfl #[.int .i64 a0] rfl (by (try simp only [List.map_toArray, List.map_cons, List.map_nil]); first | done | rfl | (simp only [List.length_drop, List.length_take]; rfl)) ?_; (with_reducible refine (qrlayout_frameOf.calls k a0 t479 t480 t481 t484 _ A2.out).mono ?_); rintro e w16 ⟨v482, rfl, ho0, hb⟩; refine ⟨_, rfl, ?_⟩; have n0_ := Aside0.mk (Kd.R_lower ho0 (below_size (belA HB.out))); have n1_ := Aside0.mk (below_step (belA HB.out) hb); clear HB; have HO483 := n0_; have HB := n1_; clear n0_ n1_; (try clear hb); (try clear hb2); (try clear hk); (try clear hi); (try clear ho0)) | ((with_reducible refine gate_dst (N := 4) rfl ?_); refine box_event ?hg (N := 4) ?hd (cs := #[.int .i64 0, .int .i64 0, .slice none 0 0]) (t := 69) ?hr ?_; (case hd => rfl); (case hg => rfl); (case hr => first | (go_simp; done) | (go_simp; rfl)); intro gb485 hg w17 hbox hb; have n0_ := Aside0.mk (Kd.R_below (rowA HO483.out) hb); have n1_ := Aside0.mk (below_step (belA HB.out) hb); have n2_ := Aside0.mk (hbox); have n3_ := Aside0.mk ((by rw [hg]; exact (below_size (belA HB.out)) : w.heap.size ≤ gb485)); have n4_ := Aside0.mk ((by rw [hg]; exact (below_size (belA HB.out)) : w.heap.size ≤ gb485)); clear HO483; clear HB; have HO483 := n0_; have HB := n1_; have BK485 := n2_; have GW485 := n3_; have GE485 := n4_; clear n0_ n1_ n2_ n3_ n4_; clear hb hbox hg; have hcz18_0 : w17.cell? ⟨gb485, 0, none⟩ = some (.int .i64 0) := (blk_cell BK485.out 0).trans rfl; have hcz18_1 : w17.cell? ⟨gb485, 1, none⟩ = some (.int .i64 0) := (blk_cell BK485.out 1).trans rfl; have hcz18_2 : w17.cell? ⟨gb485, 2, none⟩ = some (.slice none 0 0) := (blk_cell BK485.out 2).trans rfl; have hfz18_0 := blk_frozen BK485.out 0; have hfz18_1 := blk_frozen BK485.out 1; have hfz18_2 := blk_frozen BK485.out 2; obtain ⟨Ao19, co19, eo19⟩ := Kd.R_slice HO483.out; subst eo19))
  go_ret2
  exact ⟨_, by first | rfl | (simp [errW_none, errW_some] <;> rfl) | (simp [*, errW_none, errW_some] <;> rfl), by first | exact Kd.R_nil _ _ _ _ _ | exact Kd.N_nil _ _ _ _ _ | exact Kd.V_nil _ _ _ _ _ | exact Kd.Q_nil _ _ _ _ _ | exact Kd.S_nil _ _ _ _ _, belA HB.out⟩

end Go.Proofs.Ytbbnagjfjgkgjaa.L
