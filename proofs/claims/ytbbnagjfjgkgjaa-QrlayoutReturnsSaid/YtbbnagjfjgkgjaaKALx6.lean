-- Written by a program of this session out of the kit's print of the loaded functions (see wip/).
import Derived.Test.YtbbnagjfjgkgjaaKALx0
import Derived.Test.YtbbnagjfjgkgjaaKALx3
import Derived.Test.YtbbnagjfjgkgjaaKALx4
import Derived.Test.YtbbnagjfjgkgjaaKALx5
namespace Go.Proofs.Ytbbnagjfjgkgjaa.L
open Go.RowKit Go.Proofs.YtbbnagjfjgkgjaaW.PrintWords Go.Proofs.YtbbnagjfjgkgjaaW.PrintLast Go.Proofs.YtbbnagjfjgkgjaaW.PrintMore
attribute [local go_sem] max2_int min2_int max_two min_two max_three min_three max_four min_four   -- for this text's walks alone
set_option linter.unusedVariables false
set_option linter.unusedSimpArgs false

mutual
def qrlayout_Faults.l0 : Nat → Int → List Bool → Int → Int → Int → Int → List Bool → Int → Int → List Int → Option (Int × Int)
 | 0, _, _, _, _, _, _, _, _, _, _ => none
 | k + 1, x6, x20, x21, x22, x166000, x166001, x166002, x173000, x173001, x173002 => if x22 < x21 then (if 0 ≤ x22 then (if x22 < (x20.length : Int) then (if x166000 = 0 then (none) else ((qrlayout_frame_cell.f k x173000 x173001 x173002 (Int.tmod x22 x166000) (wrap64 (Int.tdiv x22 x166000))).bind fun t174 => (if t174 = 2 then (qrlayout_Faults.j1 k x6 (rdOf false x20 x22) (Int.tmod x22 x166000) (wrap64 (Int.tdiv x22 x166000)) x20 x21 x22 (t174 == 2) x166000 x166001 x166002 x173000 x173001 x173002) else (if t174 = 4 then (qrlayout_Faults.j1 k x6 (rdOf false x20 x22) (Int.tmod x22 x166000) (wrap64 (Int.tdiv x22 x166000)) x20 x21 x22 (t174 == 4) x166000 x166001 x166002 x173000 x173001 x173002) else (if t174 = 3 then (qrlayout_Faults.j1 k x6 (rdOf false x20 x22) (Int.tmod x22 x166000) (wrap64 (Int.tdiv x22 x166000)) x20 x21 x22 (t174 == 3) x166000 x166001 x166002 x173000 x173001 x173002) else (qrlayout_Faults.j1 k x6 (rdOf false x20 x22) (Int.tmod x22 x166000) (wrap64 (Int.tdiv x22 x166000)) x20 x21 x22 (t174 == 7) x166000 x166001 x166002 x173000 x173001 x173002)))))) else (none)) else (none)) else (some (x6, 0))
def qrlayout_Faults.j1 : Nat → Int → Bool → Int → Int → List Bool → Int → Int → Bool → Int → Int → List Bool → Int → Int → List Int → Option (Int × Int)
 | 0, _, _, _, _, _, _, _, _, _, _, _, _, _, _ => none
 | k + 1, x6, x8, x9, x10, x20, x21, x22, x39, x166000, x166001, x166002, x173000, x173001, x173002 => if x39 = true then ((qrlayout_frame_dark.f k x173000 x173001 x173002 x9 x10).bind fun t175 => (if (x8 != t175) = true then (qrlayout_Faults.l0 k (wrap64 (x6 + 1)) x20 x21 (wrap64 (x22 + 1)) x166000 x166001 x166002 x173000 x173001 x173002) else (qrlayout_Faults.l0 k x6 x20 x21 (wrap64 (x22 + 1)) x166000 x166001 x166002 x173000 x173001 x173002))) else (qrlayout_Faults.l0 k x6 x20 x21 (wrap64 (x22 + 1)) x166000 x166001 x166002 x173000 x173001 x173002)
end
def qrlayout_Faults.f (k : Nat) (a0_0 : Int) (a0_1 : Int) (l0_2 : List Bool) : Option (Int × Int) := (qrlayout_sized.f k a0_0 a0_1 l0_2).bind fun bt166 => (if bt166.2.2.2 = 0 then (qrlayout_Faults.l0 k 0 l0_2 (l0_2.length : Int) 0 a0_0 a0_1 l0_2 bt166.1 bt166.2.1 bt166.2.2.1) else (some (0, bt166.2.2.2)))
set_option maxHeartbeats 8000000 in
set_option maxRecDepth 100000 in
theorem qrlayout_Faults.calls (k : Nat) (a0_0 : Int) (a0_1 : Int) (A0_2 : Option Addr) (c0_2 : Nat) (l0_2 : List Bool) (r1 : Int) (r2 : Int) (w : World) (hr0_2 : Kd.C Kd.bool w A0_2 l0_2.length l0_2) (hc0_2 : l0_2.length ≤ c0_2) (h : qrlayout_Faults.f k a0_0 a0_1 l0_2 = some (r1, r2)) :
  Calls Try.prog 14 #[.agg #[.int .i64 a0_0, .int .i64 a0_1, .slice A0_2 l0_2.length c0_2]] w fun e w' => e = .returned (.tuple #[.int .i64 r1, .int .i64 r2]) ∧ Below w.heap.size w w' := by
 have hu24 := Try.underlying24
 have hu69 := Try.underlying69
 have HR0_2 := Aside0.mk hr0_2
 have HC0_2 := Aside0.mk hc0_2
 clear hr0_2 hc0_2
 have HB := Aside0.mk (Below.refl w.heap.size w)
 have H : ((qrlayout_sized.f k a0_0 a0_1 l0_2).bind fun bt166 => (if bt166.2.2.2 = 0 then (qrlayout_Faults.l0 k 0 l0_2 (l0_2.length : Int) 0 a0_0 a0_1 l0_2 bt166.1 bt166.2.1 bt166.2.2.1) else (some (0, bt166.2.2.2)))) = some (r1, r2) := h
 clear h
 replace H := Option.bind_eq_some_iff.mp H
 obtain ⟨⟨t166, t167, t168, t171⟩, A20, H⟩ := H
 replace H : (if t171 = 0 then (qrlayout_Faults.l0 k 0 l0_2 (l0_2.length : Int) 0 a0_0 a0_1 l0_2 t166 t167 t168) else (some (0, t171))) = some (r1, r2) := H
 have A2 := Aside0.mk A20
 clear A20
 by_cases c3 : t171 = 0
 ·rw [if_pos c3] at H
  have c3b0 : (t171 == 0) = true := beq_iff_eq.mpr c3
  have c3b1 : (t171 != 0) = false := bne_eq_false_iff_eq.mpr c3
  clear c3
  have H' := Aside0.mk H
  clear H
  go_enter Try.func14, Try.ntmps14
  go_wp2_with (first | ((with_reducible refine gate_dst (N := 1) rfl ?_); refine boxE (N := 1) (cs := #[.int .i64 a0_0, .int .i64 a0_1, .slice A0_2 l0_2.length c0_2]) (t := 24) ?_; intro gb165 hg w4 hbox hb; have BK165 := Aside0.mk (hbox); have GW165 := Aside0.mk ((szA hg HB.out : w.heap.size ≤ gb165)); have GE165 := Aside0.mk ((szA hg HB.out : w.heap.size ≤ gb165)); replace HB := Aside0.mk (below_step (belA HB.out) hb); clear hb hbox hg; obtain ⟨hcz5_0, hcz5_1, hcz5_2, hfz5_0, hfz5_1, hfz5_2⟩ := bk3 BK165.out) | (go_at_call 40; (with_reducible refine (qrlayout_sized.calls k a0_0 a0_1 _ _ l0_2 t166 t167 t168 t171 _ ?side1 ?side2 A2.out).mono ?_); (case side1 => exact lowA (Kd.C_below HR0_2.out HB.out)); (case side2 => exact HC0_2.out); rintro e w6 ⟨v169, rfl, ho0, hb⟩; have HO170 := Aside0.mk (Kd.R_lower ho0 (below_size (belA HB.out))); replace BK165 := Aside0.mk (blk_below (g := gb165) (o := .cells #[.int .i64 a0_0, .int .i64 a0_1, .slice A0_2 l0_2.length c0_2] 24 (0, 0)) (blkA BK165.out) hb); replace HB := Aside0.mk (below_step (belA HB.out) hb); (try clear hb); (try clear hb2); (try clear hk); (try clear hi); (try clear ho0)) | ((with_reducible refine gate_dst (N := 4) rfl ?_); refine boxE (N := 4) (cs := #[.int .i64 0, .int .i64 0, .slice none 0 0]) (t := 69) ?_; intro gb172 hg w7 hbox hb; have BK172 := Aside0.mk (hbox); have GW172 := Aside0.mk ((szA hg HB.out : w.heap.size ≤ gb172)); have GE172 := Aside0.mk ((szA hg HB.out : w.heap.size ≤ gb172)); have NB165_172 := Aside0.mk ((neL hg BK165.out : gb165 ≠ gb172)); have NB172_165 := Aside0.mk ((neG hg BK165.out : gb172 ≠ gb165)); replace HO170 := Aside0.mk (Kd.R_below (rowA HO170.out) hb); replace BK165 := Aside0.mk (blk_below (g := gb165) (o := .cells #[.int .i64 a0_0, .int .i64 a0_1, .slice A0_2 l0_2.length c0_2] 24 (0, 0)) (blkA BK165.out) hb); replace HB := Aside0.mk (below_step (belA HB.out) hb); clear hb hbox hg; have hnb8 := NB172_165.out; have hnc8 := NB165_172.out; obtain ⟨hcz9_0, hcz9_1, hcz9_2, hfz9_0, hfz9_1, hfz9_2⟩ := bk3 BK172.out; obtain ⟨Ao10, co10, eo10⟩ := Kd.R_slice HO170.out; subst eo10; obtain ⟨hcz11_0, hcz11_1, hcz11_2, hfz11_0, hfz11_1, hfz11_2⟩ := bk3 BK165.out))
  repeat (go_quiet (first | ((with_reducible refine gate_dst (N := 1) rfl ?_); refine boxE (N := 1) (cs := #[.int .i64 a0_0, .int .i64 a0_1, .slice A0_2 l0_2.length c0_2]) (t := 24) ?_; intro gb165 hg w4 hbox hb; have BK165 := Aside0.mk (hbox); have GW165 := Aside0.mk ((szA hg HB.out : w.heap.size ≤ gb165)); have GE165 := Aside0.mk ((szA hg HB.out : w.heap.size ≤ gb165)); replace HB := Aside0.mk (below_step (belA HB.out) hb); clear hb hbox hg; obtain ⟨hcz5_0, hcz5_1, hcz5_2, hfz5_0, hfz5_1, hfz5_2⟩ := bk3 BK165.out) | (go_at_call 40; (with_reducible refine (qrlayout_sized.calls k a0_0 a0_1 _ _ l0_2 t166 t167 t168 t171 _ ?side1 ?side2 A2.out).mono ?_); (case side1 => exact lowA (Kd.C_below HR0_2.out HB.out)); (case side2 => exact HC0_2.out); rintro e w6 ⟨v169, rfl, ho0, hb⟩; have HO170 := Aside0.mk (Kd.R_lower ho0 (below_size (belA HB.out))); replace BK165 := Aside0.mk (blk_below (g := gb165) (o := .cells #[.int .i64 a0_0, .int .i64 a0_1, .slice A0_2 l0_2.length c0_2] 24 (0, 0)) (blkA BK165.out) hb); replace HB := Aside0.mk (below_step (belA HB.out) hb); (try clear hb); (try clear hb2); (try clear hk); (try clear hi); (try clear ho0)) | ((with_reducible refine gate_dst (N := 4) rfl ?_); refine boxE (N := 4) (cs := #[.int .i64 0, .int .i64 0, .slice none 0 0]) (t := 69) ?_; intro gb172 hg w7 hbox hb; have BK172 := Aside0.mk (hbox); have GW172 := Aside0.mk ((szA hg HB.out : w.heap.size ≤ gb172)); have GE172 := Aside0.mk ((szA hg HB.out : w.heap.size ≤ gb172)); have NB165_172 := Aside0.mk ((neL hg BK165.out : gb165 ≠ gb172)); have NB172_165 := Aside0.mk ((neG hg BK165.out : gb172 ≠ gb165)); replace HO170 := Aside0.mk (Kd.R_below (rowA HO170.out) hb); replace BK165 := Aside0.mk (blk_below (g := gb165) (o := .cells #[.int .i64 a0_0, .int .i64 a0_1, .slice A0_2 l0_2.length c0_2] 24 (0, 0)) (blkA BK165.out) hb); replace HB := Aside0.mk (below_step (belA HB.out) hb); clear hb hbox hg; have hnb8 := NB172_165.out; have hnc8 := NB165_172.out; obtain ⟨hcz9_0, hcz9_1, hcz9_2, hfz9_0, hfz9_1, hfz9_2⟩ := bk3 BK172.out; obtain ⟨Ao10, co10, eo10⟩ := Kd.R_slice HO170.out; subst eo10; obtain ⟨hcz11_0, hcz11_1, hcz11_2, hfz11_0, hfz11_1, hfz11_2⟩ := bk3 BK165.out)); try go_wp2_with (first | ((with_reducible refine gate_dst (N := 1) rfl ?_); refine boxE (N := 1) (cs := #[.int .i64 a0_0, .int .i64 a0_1, .slice A0_2 l0_2.length c0_2]) (t := 24) ?_; intro gb165 hg w4 hbox hb; have BK165 := Aside0.mk (hbox); have GW165 := Aside0.mk ((szA hg HB.out : w.heap.size ≤ gb165)); have GE165 := Aside0.mk ((szA hg HB.out : w.heap.size ≤ gb165)); replace HB := Aside0.mk (below_step (belA HB.out) hb); clear hb hbox hg; obtain ⟨hcz5_0, hcz5_1, hcz5_2, hfz5_0, hfz5_1, hfz5_2⟩ := bk3 BK165.out) | (go_at_call 40; (with_reducible refine (qrlayout_sized.calls k a0_0 a0_1 _ _ l0_2 t166 t167 t168 t171 _ ?side1 ?side2 A2.out).mono ?_); (case side1 => exact lowA (Kd.C_below HR0_2.out HB.out)); (case side2 => exact HC0_2.out); rintro e w6 ⟨v169, rfl, ho0, hb⟩; have HO170 := Aside0.mk (Kd.R_lower ho0 (below_size (belA HB.out))); replace BK165 := Aside0.mk (blk_below (g := gb165) (o := .cells #[.int .i64 a0_0, .int .i64 a0_1, .slice A0_2 l0_2.length c0_2] 24 (0, 0)) (blkA BK165.out) hb); replace HB := Aside0.mk (below_step (belA HB.out) hb); (try clear hb); (try clear hb2); (try clear hk); (try clear hi); (try clear ho0)) | ((with_reducible refine gate_dst (N := 4) rfl ?_); refine boxE (N := 4) (cs := #[.int .i64 0, .int .i64 0, .slice none 0 0]) (t := 69) ?_; intro gb172 hg w7 hbox hb; have BK172 := Aside0.mk (hbox); have GW172 := Aside0.mk ((szA hg HB.out : w.heap.size ≤ gb172)); have GE172 := Aside0.mk ((szA hg HB.out : w.heap.size ≤ gb172)); have NB165_172 := Aside0.mk ((neL hg BK165.out : gb165 ≠ gb172)); have NB172_165 := Aside0.mk ((neG hg BK165.out : gb172 ≠ gb165)); replace HO170 := Aside0.mk (Kd.R_below (rowA HO170.out) hb); replace BK165 := Aside0.mk (blk_below (g := gb165) (o := .cells #[.int .i64 a0_0, .int .i64 a0_1, .slice A0_2 l0_2.length c0_2] 24 (0, 0)) (blkA BK165.out) hb); replace HB := Aside0.mk (below_step (belA HB.out) hb); clear hb hbox hg; have hnb8 := NB172_165.out; have hnc8 := NB165_172.out; obtain ⟨hcz9_0, hcz9_1, hcz9_2, hfz9_0, hfz9_1, hfz9_2⟩ := bk3 BK172.out; obtain ⟨Ao10, co10, eo10⟩ := Kd.R_slice HO170.out; subst eo10; obtain ⟨hcz11_0, hcz11_1, hcz11_2, hfz11_0, hfz11_1, hfz11_2⟩ := bk3 BK165.out)))
  go_loopg [6, 22] k (fun kq v6 v22 w' => ∃ (x6_1 : Int) (x22_1 : Int), v6 = .int .i64 x6_1 ∧ v22 = .int .i64 x22_1 ∧ Aside0 (qrlayout_Faults.l0 kq x6_1 l0_2 (l0_2.length : Int) x22_1 a0_0 a0_1 l0_2 t166 t167 t168 = some (r1, r2)) ∧ Aside0 (kq ≤ k) ∧ Aside0 (Kd.R (Kd.int .i64) 3 w' w.heap.size (fun _ => True) (.slice Ao10 t168.length co10) t168) ∧ Aside0 (w'.heap[gb165]? = some (.cells #[.int .i64 a0_0, .int .i64 a0_1, (.slice A0_2 l0_2.length c0_2)] 24 (0, 0))) ∧ Aside0 (w'.heap[gb172]? = some (.cells #[.int .i64 t166, .int .i64 t167, (.slice Ao10 t168.length co10)] 69 (0, 0))) ∧ Aside0 (Below w.heap.size w w'))
  case atStart => exact ⟨(0), (0), smpA, smpA, H', ⟨Nat.le_refl _⟩, ⟨by (with_reducible repeat (first | apply Kd.R_alloc | apply Kd.R_drewN | apply Kd.R_drew)); exact Kd.R_mono (Kd.R_far (p := ⟨gb172, 2, none⟩) (Kd.R_far (p := ⟨gb172, 1, none⟩) (Kd.R_far (p := ⟨gb172, 0, none⟩) (Kd.R_types HO170.out BK172.out (by decide)) (fun _ hk => hk.2) (.int .i64 t166)) (fun _ hk => hk.2) (.int .i64 t167)) (fun _ hk => hk.2) (.slice Ao10 t168.length co10)) (fun _ hk => trivial)⟩, ⟨blkB BK165.out⟩, ⟨blkB BK172.out⟩, ⟨belA HB.out⟩⟩
  case round =>
   clear H'
   try clear c1
   try clear p2
   try clear c3
   try clear c3b0
   try clear c3b1
   try clear c8
   try clear hcz11_0
   try clear hcz11_1
   try clear hcz11_2
   try clear hcz5_0
   try clear hcz5_1
   try clear hcz5_2
   try clear hcz9_0
   try clear hcz9_1
   try clear hcz9_2
   try clear hfz11_0
   try clear hfz11_1
   try clear hfz11_2
   try clear hfz5_0
   try clear hfz5_1
   try clear hfz5_2
   try clear hfz9_0
   try clear hfz9_1
   try clear hfz9_2
   obtain ⟨x6_1, x22_1, rfl, rfl, HA, HK1, HO_173002, BK165, BK172, HB⟩ := hrel
   cases gk with
   | zero => exact absurd HA.out (by simp [qrlayout_Faults.l0])
   | succ k1 =>
    have H := HA.out
    clear HA
    simp only [qrlayout_Faults.l0] at H
    by_cases c12 : x22_1 < (l0_2.length : Int)
    ·rw [if_pos c12] at H
     have c12b0 : decide (x22_1 < (l0_2.length : Int)) = true := decide_eq_true c12
     clear c12
     by_cases c13 : 0 ≤ x22_1
     ·rw [if_pos c13] at H
      have c13b0 : decide (0 ≤ x22_1) = true := decide_eq_true c13
      clear c13
      by_cases c14 : x22_1 < (l0_2.length : Int)
      ·rw [if_pos c14] at H
       have c14b0 : decide (x22_1 < (l0_2.length : Int)) = true := decide_eq_true c14
       clear c14
       by_cases c15 : a0_0 = 0
       ·rw [if_pos c15] at H
        exact absurd H (by simp)
       ·rw [if_neg c15] at H
        have c15b0 : (a0_0 == 0) = false := beq_eq_false_iff_ne.mpr c15
        have c15b1 : (a0_0 != 0) = true := bne_iff_ne.mpr c15
        replace H := Option.bind_eq_some_iff.mp H
        obtain ⟨t174, A160, H⟩ := H
        replace H : (if t174 = 2 then (qrlayout_Faults.j1 k1 x6_1 (rdOf false l0_2 x22_1) (Int.tmod x22_1 a0_0) (wrap64 (Int.tdiv x22_1 a0_0)) l0_2 (l0_2.length : Int) x22_1 (t174 == 2) a0_0 a0_1 l0_2 t166 t167 t168) else (if t174 = 4 then (qrlayout_Faults.j1 k1 x6_1 (rdOf false l0_2 x22_1) (Int.tmod x22_1 a0_0) (wrap64 (Int.tdiv x22_1 a0_0)) l0_2 (l0_2.length : Int) x22_1 (t174 == 4) a0_0 a0_1 l0_2 t166 t167 t168) else (if t174 = 3 then (qrlayout_Faults.j1 k1 x6_1 (rdOf false l0_2 x22_1) (Int.tmod x22_1 a0_0) (wrap64 (Int.tdiv x22_1 a0_0)) l0_2 (l0_2.length : Int) x22_1 (t174 == 3) a0_0 a0_1 l0_2 t166 t167 t168) else (qrlayout_Faults.j1 k1 x6_1 (rdOf false l0_2 x22_1) (Int.tmod x22_1 a0_0) (wrap64 (Int.tdiv x22_1 a0_0)) l0_2 (l0_2.length : Int) x22_1 (t174 == 7) a0_0 a0_1 l0_2 t166 t167 t168)))) = some (r1, r2) := H
        have A16 := Aside0.mk A160
        clear A160
        have HC17 := Aside0.mk H
        clear H
        have p173 : 0 ≤ (x22_1 : Int) := of_decide_eq_true (by first | (with_reducible assumption) | assumption)
        have q173 : x22_1 < (l0_2.length : Int) := of_decide_eq_true (by first | (with_reducible assumption) | assumption)
        obtain ⟨ad173, e173, hx173_0⟩ := Kd.at_bool HR0_2.out x22_1 p173 q173
        cases e173
        replace hx173_0 := (HB.out.cell (World.block_lt_of_cell? w _ hx173_0)).trans hx173_0
        replace p173 := eq_true p173
        replace q173 := eq_true q173
        have hnb18 := NB165_172.out
        have hnc18 := NB172_165.out
        obtain ⟨hcz19_0, hcz19_1, hcz19_2, hfz19_0, hfz19_1, hfz19_2⟩ := bk3 BK165.out
        obtain ⟨hcz20_0, hcz20_1, hcz20_2, hfz20_0, hfz20_1, hfz20_2⟩ := bk3 BK172.out
        go_upto_if 39 with (first | (go_at_call 41; (with_reducible refine (qrlayout_frame_cell.calls k1 t166 t167 _ _ t168 (Int.tmod x22_1 a0_0) (wrap64 (Int.tdiv x22_1 a0_0)) t174 _ ?side1 ?side2 A16.out).mono ?_); (case side1 => exact lowA (Kd.R_reads' HO_173002.out).2.2); (case side2 => exact (Kd.R_reads' HO_173002.out).2.1); rintro e w21 ⟨rfl, hb⟩; replace HO_173002 := Aside0.mk (Kd.R_below (rowA HO_173002.out) hb); replace BK165 := Aside0.mk (blk_below (g := gb165) (o := .cells #[.int .i64 a0_0, .int .i64 a0_1, .slice (some ad173) l0_2.length c0_2] 24 (0, 0)) (blkA BK165.out) hb); replace BK172 := Aside0.mk (blk_below (g := gb172) (o := .cells #[.int .i64 t166, .int .i64 t167, .slice Ao10 t168.length co10] 69 (0, 0)) (blkA BK172.out) hb); replace HB := Aside0.mk (below_step (belA HB.out) hb); (try clear hb); (try clear hb2); (try clear hk); (try clear hi)))
        repeat (go_quiet (first | (go_at_call 41; (with_reducible refine (qrlayout_frame_cell.calls k1 t166 t167 _ _ t168 (Int.tmod x22_1 a0_0) (wrap64 (Int.tdiv x22_1 a0_0)) t174 _ ?side1 ?side2 A16.out).mono ?_); (case side1 => exact lowA (Kd.R_reads' HO_173002.out).2.2); (case side2 => exact (Kd.R_reads' HO_173002.out).2.1); rintro e w21 ⟨rfl, hb⟩; replace HO_173002 := Aside0.mk (Kd.R_below (rowA HO_173002.out) hb); replace BK165 := Aside0.mk (blk_below (g := gb165) (o := .cells #[.int .i64 a0_0, .int .i64 a0_1, .slice (some ad173) l0_2.length c0_2] 24 (0, 0)) (blkA BK165.out) hb); replace BK172 := Aside0.mk (blk_below (g := gb172) (o := .cells #[.int .i64 t166, .int .i64 t167, .slice Ao10 t168.length co10] 69 (0, 0)) (blkA BK172.out) hb); replace HB := Aside0.mk (below_step (belA HB.out) hb); (try clear hb); (try clear hb2); (try clear hk); (try clear hi))); go_upto_if 39 with (first | (go_at_call 41; (with_reducible refine (qrlayout_frame_cell.calls k1 t166 t167 _ _ t168 (Int.tmod x22_1 a0_0) (wrap64 (Int.tdiv x22_1 a0_0)) t174 _ ?side1 ?side2 A16.out).mono ?_); (case side1 => exact lowA (Kd.R_reads' HO_173002.out).2.2); (case side2 => exact (Kd.R_reads' HO_173002.out).2.1); rintro e w21 ⟨rfl, hb⟩; replace HO_173002 := Aside0.mk (Kd.R_below (rowA HO_173002.out) hb); replace BK165 := Aside0.mk (blk_below (g := gb165) (o := .cells #[.int .i64 a0_0, .int .i64 a0_1, .slice (some ad173) l0_2.length c0_2] 24 (0, 0)) (blkA BK165.out) hb); replace BK172 := Aside0.mk (blk_below (g := gb172) (o := .cells #[.int .i64 t166, .int .i64 t167, .slice Ao10 t168.length co10] 69 (0, 0)) (blkA BK172.out) hb); replace HB := Aside0.mk (below_step (belA HB.out) hb); (try clear hb); (try clear hb2); (try clear hk); (try clear hi))))
        (try simp only [Act.put, List.setIfInBounds_toArray, List.set_cons_zero, List.set_cons_succ])
        go_cut [39] (fun v39 wc => ∃ (kq : Nat) (x39_16 : Bool), v39 = .bool x39_16 ∧ Aside0 (qrlayout_Faults.j1 kq x6_1 (rdOf false l0_2 x22_1) (Int.tmod x22_1 a0_0) (wrap64 (Int.tdiv x22_1 a0_0)) l0_2 (l0_2.length : Int) x22_1 x39_16 a0_0 a0_1 l0_2 t166 t167 t168 = some (r1, r2)) ∧ Aside0 (kq ≤ k1) ∧ Aside0 (Kd.R (Kd.int .i64) 3 wc w.heap.size (fun _ => True) (.slice Ao10 t168.length co10) t168) ∧ Aside0 (wc.heap[gb165]? = some (.cells #[.int .i64 a0_0, .int .i64 a0_1, (.slice (some ad173) l0_2.length c0_2)] 24 (0, 0))) ∧ Aside0 (wc.heap[gb172]? = some (.cells #[.int .i64 t166, .int .i64 t167, (.slice Ao10 t168.length co10)] 69 (0, 0))) ∧ Aside0 (Below w.heap.size w wc))
        case first =>
         have H := HC17.out
         clear HC17
         by_cases c22 : t174 = 2
         ·rw [if_pos c22] at H
          have c22b0 : (t174 == 2) = true := beq_iff_eq.mpr c22
          have c22b1 : (t174 != 2) = false := bne_eq_false_iff_eq.mpr c22
          clear c22
          (first | rw [c22b0] | (simp only [i64_w, i32_w]; rw [c22b0]) | skip)
          have H' := Aside0.mk H
          clear H
          go_wp2
          repeat (go_quiet (fail); try go_wp2)
          go_meet
          case rel => exact ⟨_, ((t174 == 2)), smpA, H', ⟨by have := HK1.out; first | omega | exact Nat.le_refl _⟩, ⟨rowA HO_173002.out⟩, ⟨blkA BK165.out⟩, ⟨blkA BK172.out⟩, ⟨belA HB.out⟩⟩
         ·rw [if_neg c22] at H
          have c22b0 : (t174 == 2) = false := beq_eq_false_iff_ne.mpr c22
          have c22b1 : (t174 != 2) = true := bne_iff_ne.mpr c22
          (first | rw [c22b0] | (simp only [i64_w, i32_w]; rw [c22b0]) | skip)
          by_cases c23 : t174 = 4
          ·rw [if_pos c23] at H
           have c23b0 : (t174 == 4) = true := beq_iff_eq.mpr c23
           have c23b1 : (t174 != 4) = false := bne_eq_false_iff_eq.mpr c23
           clear c23
           have H' := Aside0.mk H
           clear H
           go_wp2
           repeat (go_quiet (fail); try go_wp2)
           go_meet
           case rel => exact ⟨_, ((t174 == 4)), smpA, H', ⟨by have := HK1.out; first | omega | exact Nat.le_refl _⟩, ⟨rowA HO_173002.out⟩, ⟨blkA BK165.out⟩, ⟨blkA BK172.out⟩, ⟨belA HB.out⟩⟩
          ·rw [if_neg c23] at H
           have c23b0 : (t174 == 4) = false := beq_eq_false_iff_ne.mpr c23
           have c23b1 : (t174 != 4) = true := bne_iff_ne.mpr c23
           by_cases c24 : t174 = 3
           ·rw [if_pos c24] at H
            have c24b0 : (t174 == 3) = true := beq_iff_eq.mpr c24
            have c24b1 : (t174 != 3) = false := bne_eq_false_iff_eq.mpr c24
            clear c24
            have H' := Aside0.mk H
            clear H
            go_wp2
            repeat (go_quiet (fail); try go_wp2)
            go_meet
            case rel => exact ⟨_, ((t174 == 3)), smpA, H', ⟨by have := HK1.out; first | omega | exact Nat.le_refl _⟩, ⟨rowA HO_173002.out⟩, ⟨blkA BK165.out⟩, ⟨blkA BK172.out⟩, ⟨belA HB.out⟩⟩
           ·rw [if_neg c24] at H
            have c24b0 : (t174 == 3) = false := beq_eq_false_iff_ne.mpr c24
            have c24b1 : (t174 != 3) = true := bne_iff_ne.mpr c24
            have H' := Aside0.mk H
            clear H
            go_wp2
            repeat (go_quiet (fail); try go_wp2)
            go_meet
            case rel => exact ⟨_, ((t174 == 7)), smpA, H', ⟨by have := HK1.out; first | omega | exact Nat.le_refl _⟩, ⟨rowA HO_173002.out⟩, ⟨blkA BK165.out⟩, ⟨blkA BK172.out⟩, ⟨belA HB.out⟩⟩
        case rest =>
         clear HC17
         try clear c1
         try clear p1
         try clear q1
         try clear hx1
         try clear c2
         try clear p2
         try clear c3
         try clear c3b0
         try clear c3b1
         try clear p6
         try clear c8
         try clear c12
         try clear c12b0
         try clear c13
         try clear c13b0
         try clear c14
         try clear c14b0
         try clear c15
         try clear c15b0
         try clear c15b1
         try clear p17
         try clear q17
         try clear hx17
         try clear c18
         try clear c22
         try clear c22b0
         try clear c22b1
         try clear c23
         try clear c23b0
         try clear c23b1
         try clear c24
         try clear c24b0
         try clear c24b1
         try clear hcz11_0
         try clear hcz11_1
         try clear hcz11_2
         try clear hcz19_0
         try clear hcz19_1
         try clear hcz19_2
         try clear hcz20_0
         try clear hcz20_1
         try clear hcz20_2
         try clear hcz5_0
         try clear hcz5_1
         try clear hcz5_2
         try clear hcz9_0
         try clear hcz9_1
         try clear hcz9_2
         try clear hfz11_0
         try clear hfz11_1
         try clear hfz11_2
         try clear hfz19_0
         try clear hfz19_1
         try clear hfz19_2
         try clear hfz20_0
         try clear hfz20_1
         try clear hfz20_2
         try clear hfz5_0
         try clear hfz5_1
         try clear hfz5_2
         try clear hfz9_0
         try clear hfz9_1
         try clear hfz9_2
         try clear hx173_0
         try clear p173
         try clear p2
         try clear q173
         obtain ⟨kq, x39_16, rfl, HA, HJ16, HO_173002, BK165, BK172, HB⟩ := hcut
         cases kq with
         | zero => exact absurd HA.out (by simp [qrlayout_Faults.j1])
         | succ kj16 =>
          have H := HA.out
          clear HA
          simp only [qrlayout_Faults.j1] at H
          by_cases c25 : x39_16 = true
          ·subst c25
           have H1 : ((qrlayout_frame_dark.f kj16 t166 t167 t168 (Int.tmod x22_1 a0_0) (wrap64 (Int.tdiv x22_1 a0_0))).bind fun t175 => (if ((rdOf false l0_2 x22_1) != t175) = true then (qrlayout_Faults.l0 kj16 (wrap64 (x6_1 + 1)) l0_2 (l0_2.length : Int) (wrap64 (x22_1 + 1)) a0_0 a0_1 l0_2 t166 t167 t168) else (qrlayout_Faults.l0 kj16 x6_1 l0_2 (l0_2.length : Int) (wrap64 (x22_1 + 1)) a0_0 a0_1 l0_2 t166 t167 t168))) = some (r1, r2) := by rw [if_pos rfl] at H; exact H
           clear H
           have H := H1
           clear H1
           replace H := Option.bind_eq_some_iff.mp H
           obtain ⟨t175, A260, H⟩ := H
           replace H : (if ((rdOf false l0_2 x22_1) != t175) = true then (qrlayout_Faults.l0 kj16 (wrap64 (x6_1 + 1)) l0_2 (l0_2.length : Int) (wrap64 (x22_1 + 1)) a0_0 a0_1 l0_2 t166 t167 t168) else (qrlayout_Faults.l0 kj16 x6_1 l0_2 (l0_2.length : Int) (wrap64 (x22_1 + 1)) a0_0 a0_1 l0_2 t166 t167 t168)) = some (r1, r2) := H
           have A26 := Aside0.mk A260
           clear A260
           by_cases c27 : ((rdOf false l0_2 x22_1) != t175) = true
           ·rw [if_pos c27] at H
            have c27b0 : ((rdOf false l0_2 x22_1) != t175) = true := c27
            (try (have c27b1 : decide ((rdOf false l0_2 x22_1) = t175) = false := by simpa using c27))
            (try (have c27b2 : ((rdOf false l0_2 x22_1) == t175) = false := by simpa using c27))
            (try (have c27b3 : ¬ ((rdOf false l0_2 x22_1) = t175) := by simpa using c27))
            clear c27
            have H' := Aside0.mk H
            clear H
            have hnb28 := NB172_165.out
            have hnc28 := NB165_172.out
            obtain ⟨hcz29_0, hcz29_1, hcz29_2, hfz29_0, hfz29_1, hfz29_2⟩ := bk3 BK172.out
            go_wp2_with (first | (go_at_call 42; (with_reducible refine (qrlayout_frame_dark.calls kj16 t166 t167 _ _ t168 (Int.tmod x22_1 a0_0) (wrap64 (Int.tdiv x22_1 a0_0)) t175 _ ?side1 ?side2 A26.out).mono ?_); (case side1 => exact lowA (Kd.R_reads' HO_173002.out).2.2); (case side2 => exact (Kd.R_reads' HO_173002.out).2.1); rintro e w30 ⟨rfl, hb⟩; replace HO_173002 := Aside0.mk (Kd.R_below (rowA HO_173002.out) hb); replace BK165 := Aside0.mk (blk_below (g := gb165) (o := .cells #[.int .i64 a0_0, .int .i64 a0_1, .slice (some ad173) l0_2.length c0_2] 24 (0, 0)) (blkA BK165.out) hb); replace BK172 := Aside0.mk (blk_below (g := gb172) (o := .cells #[.int .i64 t166, .int .i64 t167, .slice Ao10 t168.length co10] 69 (0, 0)) (blkA BK172.out) hb); replace HB := Aside0.mk (below_step (belA HB.out) hb); (try clear hb); (try clear hb2); (try clear hk); (try clear hi)))
            repeat (go_quiet (first | (go_at_call 42; (with_reducible refine (qrlayout_frame_dark.calls kj16 t166 t167 _ _ t168 (Int.tmod x22_1 a0_0) (wrap64 (Int.tdiv x22_1 a0_0)) t175 _ ?side1 ?side2 A26.out).mono ?_); (case side1 => exact lowA (Kd.R_reads' HO_173002.out).2.2); (case side2 => exact (Kd.R_reads' HO_173002.out).2.1); rintro e w30 ⟨rfl, hb⟩; replace HO_173002 := Aside0.mk (Kd.R_below (rowA HO_173002.out) hb); replace BK165 := Aside0.mk (blk_below (g := gb165) (o := .cells #[.int .i64 a0_0, .int .i64 a0_1, .slice (some ad173) l0_2.length c0_2] 24 (0, 0)) (blkA BK165.out) hb); replace BK172 := Aside0.mk (blk_below (g := gb172) (o := .cells #[.int .i64 t166, .int .i64 t167, .slice Ao10 t168.length co10] 69 (0, 0)) (blkA BK172.out) hb); replace HB := Aside0.mk (below_step (belA HB.out) hb); (try clear hb); (try clear hb2); (try clear hk); (try clear hi))); try go_wp2_with (first | (go_at_call 42; (with_reducible refine (qrlayout_frame_dark.calls kj16 t166 t167 _ _ t168 (Int.tmod x22_1 a0_0) (wrap64 (Int.tdiv x22_1 a0_0)) t175 _ ?side1 ?side2 A26.out).mono ?_); (case side1 => exact lowA (Kd.R_reads' HO_173002.out).2.2); (case side2 => exact (Kd.R_reads' HO_173002.out).2.1); rintro e w30 ⟨rfl, hb⟩; replace HO_173002 := Aside0.mk (Kd.R_below (rowA HO_173002.out) hb); replace BK165 := Aside0.mk (blk_below (g := gb165) (o := .cells #[.int .i64 a0_0, .int .i64 a0_1, .slice (some ad173) l0_2.length c0_2] 24 (0, 0)) (blkA BK165.out) hb); replace BK172 := Aside0.mk (blk_below (g := gb172) (o := .cells #[.int .i64 t166, .int .i64 t167, .slice Ao10 t168.length co10] 69 (0, 0)) (blkA BK172.out) hb); replace HB := Aside0.mk (below_step (belA HB.out) hb); (try clear hb); (try clear hb2); (try clear hk); (try clear hi))))
            go_roundg kj16
            case measure => have := HK1.out; have := HJ16.out; omega
            case rel => exact ⟨(wrap64 (x6_1 + 1)), (wrap64 (x22_1 + 1)), smpA, smpA, H', ⟨by have := HK1.out; have := HJ16.out; omega⟩, ⟨rowA HO_173002.out⟩, ⟨blkA BK165.out⟩, ⟨blkA BK172.out⟩, ⟨belA HB.out⟩⟩
           ·rw [if_neg c27] at H
            have c27b0 : ((rdOf false l0_2 x22_1) != t175) = false := by simpa using c27
            (try (have c27b1 : decide ((rdOf false l0_2 x22_1) = t175) = true := by simpa using c27))
            (try (have c27b2 : ((rdOf false l0_2 x22_1) == t175) = true := by simpa using c27))
            clear c27
            have H' := Aside0.mk H
            clear H
            have hnb31 := NB172_165.out
            have hnc31 := NB165_172.out
            obtain ⟨hcz32_0, hcz32_1, hcz32_2, hfz32_0, hfz32_1, hfz32_2⟩ := bk3 BK172.out
            go_wp2_with (first | (go_at_call 42; (with_reducible refine (qrlayout_frame_dark.calls kj16 t166 t167 _ _ t168 (Int.tmod x22_1 a0_0) (wrap64 (Int.tdiv x22_1 a0_0)) t175 _ ?side1 ?side2 A26.out).mono ?_); (case side1 => exact lowA (Kd.R_reads' HO_173002.out).2.2); (case side2 => exact (Kd.R_reads' HO_173002.out).2.1); rintro e w33 ⟨rfl, hb⟩; replace HO_173002 := Aside0.mk (Kd.R_below (rowA HO_173002.out) hb); replace BK165 := Aside0.mk (blk_below (g := gb165) (o := .cells #[.int .i64 a0_0, .int .i64 a0_1, .slice (some ad173) l0_2.length c0_2] 24 (0, 0)) (blkA BK165.out) hb); replace BK172 := Aside0.mk (blk_below (g := gb172) (o := .cells #[.int .i64 t166, .int .i64 t167, .slice Ao10 t168.length co10] 69 (0, 0)) (blkA BK172.out) hb); replace HB := Aside0.mk (below_step (belA HB.out) hb); (try clear hb); (try clear hb2); (try clear hk); (try clear hi)))
            repeat (go_quiet (first | (go_at_call 42; (with_reducible refine (qrlayout_frame_dark.calls kj16 t166 t167 _ _ t168 (Int.tmod x22_1 a0_0) (wrap64 (Int.tdiv x22_1 a0_0)) t175 _ ?side1 ?side2 A26.out).mono ?_); (case side1 => exact lowA (Kd.R_reads' HO_173002.out).2.2); (case side2 => exact (Kd.R_reads' HO_173002.out).2.1); rintro e w33 ⟨rfl, hb⟩; replace HO_173002 := Aside0.mk (Kd.R_below (rowA HO_173002.out) hb); replace BK165 := Aside0.mk (blk_below (g := gb165) (o := .cells #[.int .i64 a0_0, .int .i64 a0_1, .slice (some ad173) l0_2.length c0_2] 24 (0, 0)) (blkA BK165.out) hb); replace BK172 := Aside0.mk (blk_below (g := gb172) (o := .cells #[.int .i64 t166, .int .i64 t167, .slice Ao10 t168.length co10] 69 (0, 0)) (blkA BK172.out) hb); replace HB := Aside0.mk (below_step (belA HB.out) hb); (try clear hb); (try clear hb2); (try clear hk); (try clear hi))); try go_wp2_with (first | (go_at_call 42; (with_reducible refine (qrlayout_frame_dark.calls kj16 t166 t167 _ _ t168 (Int.tmod x22_1 a0_0) (wrap64 (Int.tdiv x22_1 a0_0)) t175 _ ?side1 ?side2 A26.out).mono ?_); (case side1 => exact lowA (Kd.R_reads' HO_173002.out).2.2); (case side2 => exact (Kd.R_reads' HO_173002.out).2.1); rintro e w33 ⟨rfl, hb⟩; replace HO_173002 := Aside0.mk (Kd.R_below (rowA HO_173002.out) hb); replace BK165 := Aside0.mk (blk_below (g := gb165) (o := .cells #[.int .i64 a0_0, .int .i64 a0_1, .slice (some ad173) l0_2.length c0_2] 24 (0, 0)) (blkA BK165.out) hb); replace BK172 := Aside0.mk (blk_below (g := gb172) (o := .cells #[.int .i64 t166, .int .i64 t167, .slice Ao10 t168.length co10] 69 (0, 0)) (blkA BK172.out) hb); replace HB := Aside0.mk (below_step (belA HB.out) hb); (try clear hb); (try clear hb2); (try clear hk); (try clear hi))))
            go_roundg kj16
            case measure => have := HK1.out; have := HJ16.out; omega
            case rel => exact ⟨(x6_1), (wrap64 (x22_1 + 1)), smpA, smpA, H', ⟨by have := HK1.out; have := HJ16.out; omega⟩, ⟨rowA HO_173002.out⟩, ⟨blkA BK165.out⟩, ⟨blkA BK172.out⟩, ⟨belA HB.out⟩⟩
          ·replace c25 := Bool.eq_false_iff.mpr c25
           subst c25
           have H1 : (qrlayout_Faults.l0 kj16 x6_1 l0_2 (l0_2.length : Int) (wrap64 (x22_1 + 1)) a0_0 a0_1 l0_2 t166 t167 t168) = some (r1, r2) := by rw [if_neg (show ¬ (false = true) by decide)] at H; exact H
           clear H
           have H := H1
           clear H1
           have H' := Aside0.mk H
           clear H
           go_wp2
           repeat (go_quiet (fail); try go_wp2)
           go_roundg kj16
           case measure => have := HK1.out; have := HJ16.out; omega
           case rel => exact ⟨(x6_1), (wrap64 (x22_1 + 1)), smpA, smpA, H', ⟨by have := HK1.out; have := HJ16.out; omega⟩, ⟨rowA HO_173002.out⟩, ⟨blkA BK165.out⟩, ⟨blkA BK172.out⟩, ⟨belA HB.out⟩⟩
      ·rw [if_neg c14] at H
       exact absurd H (by simp)
     ·rw [if_neg c13] at H
      exact absurd H (by simp)
    ·rw [if_neg c12] at H
     have c12b0 : decide (x22_1 < (l0_2.length : Int)) = false := decide_eq_false c12
     clear c12
     simp only [Option.some.injEq, Prod.mk.injEq] at H
     obtain ⟨rfl, rfl⟩ := H
     go_wp2
     repeat (go_quiet (fail); try go_wp2)
     go_ret2
     exact ⟨errA, belA HB.out⟩
 ·rw [if_neg c3] at H
  have c3b0 : (t171 == 0) = false := beq_eq_false_iff_ne.mpr c3
  have c3b1 : (t171 != 0) = true := bne_iff_ne.mpr c3
  simp only [Option.some.injEq, Prod.mk.injEq] at H
  obtain ⟨rfl, rfl⟩ := H
  go_enter Try.func14, Try.ntmps14
  go_wp2_with (first | ((with_reducible refine gate_dst (N := 1) rfl ?_); refine boxE (N := 1) (cs := #[.int .i64 a0_0, .int .i64 a0_1, .slice A0_2 l0_2.length c0_2]) (t := 24) ?_; intro gb165 hg w34 hbox hb; have BK165 := Aside0.mk (hbox); have GW165 := Aside0.mk ((szA hg HB.out : w.heap.size ≤ gb165)); have GE165 := Aside0.mk ((szA hg HB.out : w.heap.size ≤ gb165)); replace HB := Aside0.mk (below_step (belA HB.out) hb); clear hb hbox hg; obtain ⟨hcz35_0, hcz35_1, hcz35_2, hfz35_0, hfz35_1, hfz35_2⟩ := bk3 BK165.out) | (go_at_call 40; (with_reducible refine (qrlayout_sized.calls k a0_0 a0_1 _ _ l0_2 t166 t167 t168 t171 _ ?side1 ?side2 A2.out).mono ?_); (case side1 => exact lowA (Kd.C_below HR0_2.out HB.out)); (case side2 => exact HC0_2.out); rintro e w36 ⟨v169, rfl, ho0, hb⟩; have HO170 := Aside0.mk (Kd.R_lower ho0 (below_size (belA HB.out))); replace BK165 := Aside0.mk (blk_below (g := gb165) (o := .cells #[.int .i64 a0_0, .int .i64 a0_1, .slice A0_2 l0_2.length c0_2] 24 (0, 0)) (blkA BK165.out) hb); replace HB := Aside0.mk (below_step (belA HB.out) hb); (try clear hb); (try clear hb2); (try clear hk); (try clear hi); (try clear ho0)) | ((with_reducible refine gate_dst (N := 4) rfl ?_); refine boxE (N := 4) (cs := #[.int .i64 0, .int .i64 0, .slice none 0 0]) (t := 69) ?_; intro gb172 hg w37 hbox hb; have BK172 := Aside0.mk (hbox); have GW172 := Aside0.mk ((szA hg HB.out : w.heap.size ≤ gb172)); have GE172 := Aside0.mk ((szA hg HB.out : w.heap.size ≤ gb172)); have NB165_172 := Aside0.mk ((neL hg BK165.out : gb165 ≠ gb172)); have NB172_165 := Aside0.mk ((neG hg BK165.out : gb172 ≠ gb165)); replace HO170 := Aside0.mk (Kd.R_below (rowA HO170.out) hb); replace BK165 := Aside0.mk (blk_below (g := gb165) (o := .cells #[.int .i64 a0_0, .int .i64 a0_1, .slice A0_2 l0_2.length c0_2] 24 (0, 0)) (blkA BK165.out) hb); replace HB := Aside0.mk (below_step (belA HB.out) hb); clear hb hbox hg; have hnb38 := NB172_165.out; have hnc38 := NB165_172.out; obtain ⟨hcz39_0, hcz39_1, hcz39_2, hfz39_0, hfz39_1, hfz39_2⟩ := bk3 BK172.out; obtain ⟨Ao40, co40, eo40⟩ := Kd.R_slice HO170.out; subst eo40))
  repeat (go_quiet (first | ((with_reducible refine gate_dst (N := 1) rfl ?_); refine boxE (N := 1) (cs := #[.int .i64 a0_0, .int .i64 a0_1, .slice A0_2 l0_2.length c0_2]) (t := 24) ?_; intro gb165 hg w34 hbox hb; have BK165 := Aside0.mk (hbox); have GW165 := Aside0.mk ((szA hg HB.out : w.heap.size ≤ gb165)); have GE165 := Aside0.mk ((szA hg HB.out : w.heap.size ≤ gb165)); replace HB := Aside0.mk (below_step (belA HB.out) hb); clear hb hbox hg; obtain ⟨hcz35_0, hcz35_1, hcz35_2, hfz35_0, hfz35_1, hfz35_2⟩ := bk3 BK165.out) | (go_at_call 40; (with_reducible refine (qrlayout_sized.calls k a0_0 a0_1 _ _ l0_2 t166 t167 t168 t171 _ ?side1 ?side2 A2.out).mono ?_); (case side1 => exact lowA (Kd.C_below HR0_2.out HB.out)); (case side2 => exact HC0_2.out); rintro e w36 ⟨v169, rfl, ho0, hb⟩; have HO170 := Aside0.mk (Kd.R_lower ho0 (below_size (belA HB.out))); replace BK165 := Aside0.mk (blk_below (g := gb165) (o := .cells #[.int .i64 a0_0, .int .i64 a0_1, .slice A0_2 l0_2.length c0_2] 24 (0, 0)) (blkA BK165.out) hb); replace HB := Aside0.mk (below_step (belA HB.out) hb); (try clear hb); (try clear hb2); (try clear hk); (try clear hi); (try clear ho0)) | ((with_reducible refine gate_dst (N := 4) rfl ?_); refine boxE (N := 4) (cs := #[.int .i64 0, .int .i64 0, .slice none 0 0]) (t := 69) ?_; intro gb172 hg w37 hbox hb; have BK172 := Aside0.mk (hbox); have GW172 := Aside0.mk ((szA hg HB.out : w.heap.size ≤ gb172)); have GE172 := Aside0.mk ((szA hg HB.out : w.heap.size ≤ gb172)); have NB165_172 := Aside0.mk ((neL hg BK165.out : gb165 ≠ gb172)); have NB172_165 := Aside0.mk ((neG hg BK165.out : gb172 ≠ gb165)); replace HO170 := Aside0.mk (Kd.R_below (rowA HO170.out) hb); replace BK165 := Aside0.mk (blk_below (g := gb165) (o := .cells #[.int .i64 a0_0, .int .i64 a0_1, .slice A0_2 l0_2.length c0_2] 24 (0, 0)) (blkA BK165.out) hb); replace HB := Aside0.mk (below_step (belA HB.out) hb); clear hb hbox hg; have hnb38 := NB172_165.out; have hnc38 := NB165_172.out; obtain ⟨hcz39_0, hcz39_1, hcz39_2, hfz39_0, hfz39_1, hfz39_2⟩ := bk3 BK172.out; obtain ⟨Ao40, co40, eo40⟩ := Kd.R_slice HO170.out; subst eo40)); try go_wp2_with (first | ((with_reducible refine gate_dst (N := 1) rfl ?_); refine boxE (N := 1) (cs := #[.int .i64 a0_0, .int .i64 a0_1, .slice A0_2 l0_2.length c0_2]) (t := 24) ?_; intro gb165 hg w34 hbox hb; have BK165 := Aside0.mk (hbox); have GW165 := Aside0.mk ((szA hg HB.out : w.heap.size ≤ gb165)); have GE165 := Aside0.mk ((szA hg HB.out : w.heap.size ≤ gb165)); replace HB := Aside0.mk (below_step (belA HB.out) hb); clear hb hbox hg; obtain ⟨hcz35_0, hcz35_1, hcz35_2, hfz35_0, hfz35_1, hfz35_2⟩ := bk3 BK165.out) | (go_at_call 40; (with_reducible refine (qrlayout_sized.calls k a0_0 a0_1 _ _ l0_2 t166 t167 t168 t171 _ ?side1 ?side2 A2.out).mono ?_); (case side1 => exact lowA (Kd.C_below HR0_2.out HB.out)); (case side2 => exact HC0_2.out); rintro e w36 ⟨v169, rfl, ho0, hb⟩; have HO170 := Aside0.mk (Kd.R_lower ho0 (below_size (belA HB.out))); replace BK165 := Aside0.mk (blk_below (g := gb165) (o := .cells #[.int .i64 a0_0, .int .i64 a0_1, .slice A0_2 l0_2.length c0_2] 24 (0, 0)) (blkA BK165.out) hb); replace HB := Aside0.mk (below_step (belA HB.out) hb); (try clear hb); (try clear hb2); (try clear hk); (try clear hi); (try clear ho0)) | ((with_reducible refine gate_dst (N := 4) rfl ?_); refine boxE (N := 4) (cs := #[.int .i64 0, .int .i64 0, .slice none 0 0]) (t := 69) ?_; intro gb172 hg w37 hbox hb; have BK172 := Aside0.mk (hbox); have GW172 := Aside0.mk ((szA hg HB.out : w.heap.size ≤ gb172)); have GE172 := Aside0.mk ((szA hg HB.out : w.heap.size ≤ gb172)); have NB165_172 := Aside0.mk ((neL hg BK165.out : gb165 ≠ gb172)); have NB172_165 := Aside0.mk ((neG hg BK165.out : gb172 ≠ gb165)); replace HO170 := Aside0.mk (Kd.R_below (rowA HO170.out) hb); replace BK165 := Aside0.mk (blk_below (g := gb165) (o := .cells #[.int .i64 a0_0, .int .i64 a0_1, .slice A0_2 l0_2.length c0_2] 24 (0, 0)) (blkA BK165.out) hb); replace HB := Aside0.mk (below_step (belA HB.out) hb); clear hb hbox hg; have hnb38 := NB172_165.out; have hnc38 := NB165_172.out; obtain ⟨hcz39_0, hcz39_1, hcz39_2, hfz39_0, hfz39_1, hfz39_2⟩ := bk3 BK172.out; obtain ⟨Ao40, co40, eo40⟩ := Kd.R_slice HO170.out; subst eo40)))
  go_ret2
  exact ⟨errA, belA HB.out⟩

def bits_Len64.f (a0 : Int) : Option (Int) := if 0 ≤ a0 then (if a0 ≤ 18446744073709551615 then (some (Lib.bitLen a0.toNat : Int)) else (none)) else (none)
theorem bits_Len64.calls (a0 : Int) (r : Int) (w : World) (h : bits_Len64.f a0 = some r) :
  Calls Try.prog 98 #[.int .u64 a0] w fun e w' => e = .returned (.int .i64 r) ∧ Drawn0 w w' := by
 unfold bits_Len64.f at h
 by_cases h0 : 0 ≤ a0
 ·rw [if_pos h0] at h
  by_cases h1 : a0 ≤ 18446744073709551615
  ·rw [if_pos h1] at h
   obtain rfl := Option.some.inj h
   refine (Try.bits_Len64 a0 w h0 h1).mono ?_
   rintro e w' ⟨rfl, rfl⟩
   exact ⟨rfl, Drawn0.refl _⟩
  ·rw [if_neg h1] at h
   exact absurd h (by simp)
 ·rw [if_neg h0] at h
  exact absurd h (by simp)

def bits_Len.f (a0 : Int) : Option (Int) := (bits_Len64.f a0).bind fun t176 => (some t176)
set_option maxHeartbeats 8000000 in
set_option maxRecDepth 100000 in
theorem bits_Len.calls (a0 : Int) (r : Int) (w : World) (h : bits_Len.f a0 = some r) :
  Calls Try.prog 90 #[.int .u64 a0] w fun e w' => e = .returned (.int .i64 r) ∧ Drawn0 w w' := by
 have H : ((bits_Len64.f a0).bind fun t176 => (some t176)) = some r := h
 clear h
 replace H := Option.bind_eq_some_iff.mp H
 obtain ⟨t176, A20, H⟩ := H
 replace H : (some t176) = some r := H
 have A2 := Aside0.mk A20
 clear A20
 obtain rfl := Option.some.inj H
 go_enter Try.func90, Try.ntmps90
 go_wp2_with (first | ((with_reducible refine gate_callee (f := 98) rfl ?_); refine goesL_ (some 7) rfl rfl Try.func98 (by kernel_rfl) rfl #[.int .u64 a0] rfl argA ?_; (with_reducible refine (bits_Len64.calls a0 t176 _ A2.out).mono ?_); rintro e w' ⟨rfl, ⟨nd, rfl⟩⟩; refine ⟨_, rfl, ?_⟩))
 go_ret
 exact ⟨by first | rfl | (simp; done) | (simp [*]; done), by repeat (first | exact Drawn0.refl _ | apply Drawn0.step)⟩

def bch_degree.f (a0 : Int) : Option (Int) := (bits_Len.f (IntKind.u64.wrap (a0))).bind fun t177 => (some (wrap64 (t177 - 1)))
set_option maxHeartbeats 8000000 in
set_option maxRecDepth 100000 in
theorem bch_degree.calls (a0 : Int) (r : Int) (w : World) (h : bch_degree.f a0 = some r) :
  Calls Try.prog 89 #[.int .i64 a0] w fun e w' => e = .returned (.int .i64 r) ∧ Drawn0 w w' := by
 have H : ((bits_Len.f (IntKind.u64.wrap (a0))).bind fun t177 => (some (wrap64 (t177 - 1)))) = some r := h
 clear h
 replace H := Option.bind_eq_some_iff.mp H
 obtain ⟨t177, A20, H⟩ := H
 replace H : (some (wrap64 (t177 - 1))) = some r := H
 have A2 := Aside0.mk A20
 clear A20
 obtain rfl := Option.some.inj H
 go_enter Try.func89, Try.ntmps89
 go_wp2_with (first | ((with_reducible refine gate_callee (f := 90) rfl ?_); refine goesL_ (some 5) rfl rfl Try.func90 (by kernel_rfl) rfl #[.int .u64 (IntKind.u64.wrap (a0))] rfl argA ?_; (with_reducible refine (bits_Len.calls (IntKind.u64.wrap (a0)) t177 _ A2.out).mono ?_); rintro e w' ⟨rfl, ⟨nd, rfl⟩⟩; refine ⟨_, rfl, ?_⟩))
 go_ret
 exact ⟨by first | rfl | (simp; done) | (simp [*]; done), by repeat (first | exact Drawn0.refl _ | apply Drawn0.step)⟩

def bch_codeword.l0 : Nat → Int → Int → Int → Int → Option (Int)
 | 0, _, _, _, _ => none
 | k + 1, x1, x5, x6, x7 => (bits_Len.f (IntKind.u64.wrap (x7))).bind fun t179 => (if (wrap64 ((wrap64 (t179 - 1)) - x5)) < 0 then (some (Go.bits .or .i64 x6 x7)) else (if 0 ≤ (wrap64 ((wrap64 (t179 - 1)) - x5)) then (bch_codeword.l0 k x1 x5 x6 (Go.bits .xor .i64 x7 (shl .i64 x1 (wrap64 ((wrap64 (t179 - 1)) - x5))))) else (none)))
def bch_codeword.f (k : Nat) (a0 : Int) (a1 : Int) : Option (Int) := (bch_degree.f a1).bind fun t178 => (if 0 ≤ t178 then (bch_codeword.l0 k a1 t178 (shl .i64 a0 t178) (shl .i64 a0 t178)) else (none))
set_option maxHeartbeats 8000000 in
set_option maxRecDepth 100000 in
theorem bch_codeword.calls (k : Nat) (a0 : Int) (a1 : Int) (r : Int) (w : World) (h : bch_codeword.f k a0 a1 = some r) :
  Calls Try.prog 76 #[.int .i64 a0, .int .i64 a1] w fun e w' => e = .returned (.int .i64 r) ∧ Drawn0 w w' := by
 have H : ((bch_degree.f a1).bind fun t178 => (if 0 ≤ t178 then (bch_codeword.l0 k a1 t178 (shl .i64 a0 t178) (shl .i64 a0 t178)) else (none))) = some r := h
 clear h
 replace H := Option.bind_eq_some_iff.mp H
 obtain ⟨t178, A30, H⟩ := H
 replace H : (if 0 ≤ t178 then (bch_codeword.l0 k a1 t178 (shl .i64 a0 t178) (shl .i64 a0 t178)) else (none)) = some r := H
 have A3 := Aside0.mk A30
 clear A30
 by_cases c4 : 0 ≤ t178
 ·rw [if_pos c4] at H
  have c4b0 := eq_true c4
  have c4b1 : decide (0 ≤ t178) = true := decide_eq_true c4
  clear c4
  obtain ⟨ji5, hji5⟩ : ∃ j_ : Int, (shl .i64 a0 t178) = j_ := ⟨_, rfl⟩
  replace H : (bch_codeword.l0 k a1 t178 ji5 ji5) = some r := by first | (rw [hji5] at H; exact H) | (simp only [hji5] at H ⊢; exact H)
  (try rw [hji5] at A3)
  have hji5_ : (IntKind.i64.wrap (a0 * 2 ^ min t178.toNat 64)) = ji5 := hji5
  have hji5z : t178 ≤ 64 → (IntKind.i64.wrap (a0 * 2 ^ t178.toNat)) = ji5 := shl_small hji5
  have hji5y : (wrap64 (a0 * 2 ^ min t178.toNat 64)) = ji5 := (i64_w _).symm.trans hji5_
  have hji5x : t178 ≤ 64 → (wrap64 (a0 * 2 ^ t178.toNat)) = ji5 := fun h_ => (i64_w _).symm.trans (hji5z h_)
  have H' := Aside0.mk H
  clear H
  go_enter Try.func76, Try.ntmps76
  go_wp2_with (first | ((with_reducible refine gate_callee (f := 89) rfl ?_); refine goesL_ (some 10) rfl rfl Try.func89 (by kernel_rfl) rfl #[.int .i64 a1] rfl argA ?_; (with_reducible refine (bch_degree.calls a1 t178 _ A3.out).mono ?_); rintro e w' ⟨rfl, ⟨nd, rfl⟩⟩; refine ⟨_, rfl, ?_⟩))
  go_loopg [7] k (fun kq v7 w' => ∃ (x7_1 : Int), v7 = .int .i64 x7_1 ∧ Aside0 (bch_codeword.l0 kq a1 t178 ji5 x7_1 = some r) ∧ Aside0 (kq ≤ k) ∧ Drawn0 w w')
  case atStart => exact ⟨(ji5), (by first | rfl | (simp; done) | (simp only [← hji5] <;> (first | rfl | simp)) | (simp [*]; done)), H', ⟨Nat.le_refl _⟩, by repeat (first | exact Drawn0.refl _ | apply Drawn0.step)⟩
  case round =>
   clear H'
   try clear p2
   try clear c4
   try clear c4b0
   try clear c4b1
   obtain ⟨x7_1, rfl, HA, HK1, ⟨m1, rfl⟩⟩ := hrel
   cases gk with
   | zero => exact absurd HA.out (by simp [bch_codeword.l0])
   | succ k1 =>
    have H := HA.out
    clear HA
    simp only [bch_codeword.l0] at H
    replace H := Option.bind_eq_some_iff.mp H
    obtain ⟨t179, A60, H⟩ := H
    replace H : (if (wrap64 ((wrap64 (t179 - 1)) - t178)) < 0 then (some (Go.bits .or .i64 ji5 x7_1)) else (if 0 ≤ (wrap64 ((wrap64 (t179 - 1)) - t178)) then (bch_codeword.l0 k1 a1 t178 ji5 (Go.bits .xor .i64 x7_1 (shl .i64 a1 (wrap64 ((wrap64 (t179 - 1)) - t178))))) else (none))) = some r := H
    have A6 := Aside0.mk A60
    clear A60
    by_cases c7 : (wrap64 ((wrap64 (t179 - 1)) - t178)) < 0
    ·rw [if_pos c7] at H
     have c7b0 : decide ((wrap64 ((wrap64 (t179 - 1)) - t178)) < 0) = true := decide_eq_true c7
     clear c7
     obtain rfl := Option.some.inj H
     go_wp2_with (first | ((with_reducible refine gate_callee (f := 90) rfl ?_); refine goesL_ (some 17) rfl rfl Try.func90 (by kernel_rfl) rfl #[.int .u64 (IntKind.u64.wrap (x7_1))] rfl argA ?_; (with_reducible refine (bits_Len.calls (IntKind.u64.wrap (x7_1)) t179 _ A6.out).mono ?_); rintro e w' ⟨rfl, ⟨nd, rfl⟩⟩; refine ⟨_, rfl, ?_⟩))
     go_ret
     exact ⟨by first | rfl | (simp; done) | (simp only [← hji5] <;> (first | rfl | simp)) | (simp [*]; done), by repeat (first | exact Drawn0.refl _ | apply Drawn0.step)⟩
    ·rw [if_neg c7] at H
     have c7b0 : decide ((wrap64 ((wrap64 (t179 - 1)) - t178)) < 0) = false := decide_eq_false c7
     clear c7
     obtain ⟨ji8, hji8⟩ : ∃ j_ : Int, (wrap64 ((wrap64 (t179 - 1)) - t178)) = j_ := ⟨_, rfl⟩
     replace H : (if 0 ≤ (ji8) then (bch_codeword.l0 k1 a1 t178 ji5 (Go.bits .xor .i64 x7_1 (shl .i64 a1 (ji8)))) else (none)) = some r := by first | (rw [hji8] at H; exact H) | (simp only [hji8] at H ⊢; exact H)
     (try rw [hji8] at c7b0)
     (try rw [hji8] at A6)
     have hji8w : (IntKind.i64.wrap ((wrap64 (t179 - 1)) - t178)) = ji8 := (i64_w _).trans hji8
     by_cases c9 : 0 ≤ (ji8)
     ·rw [if_pos c9] at H
      have c9b0 := eq_true c9
      have c9b1 : decide (0 ≤ (ji8)) = true := decide_eq_true c9
      clear c9
      obtain ⟨ji10, hji10⟩ : ∃ j_ : Int, (shl .i64 a1 (ji8)) = j_ := ⟨_, rfl⟩
      replace H : (bch_codeword.l0 k1 a1 t178 ji5 (Go.bits .xor .i64 x7_1 (ji10))) = some r := by first | (rw [hji10] at H; exact H) | (simp only [hji10] at H ⊢; exact H)
      (try rw [hji10] at A6)
      have hji10_ : (IntKind.i64.wrap (a1 * 2 ^ min (ji8).toNat 64)) = ji10 := hji10
      have hji10z : (ji8) ≤ 64 → (IntKind.i64.wrap (a1 * 2 ^ (ji8).toNat)) = ji10 := shl_small hji10
      have hji10y : (wrap64 (a1 * 2 ^ min (ji8).toNat 64)) = ji10 := (i64_w _).symm.trans hji10_
      have hji10x : (ji8) ≤ 64 → (wrap64 (a1 * 2 ^ (ji8).toNat)) = ji10 := fun h_ => (i64_w _).symm.trans (hji10z h_)
      have H' := Aside0.mk H
      clear H
      go_wp2_with (first | ((with_reducible refine gate_callee (f := 90) rfl ?_); refine goesL_ (some 17) rfl rfl Try.func90 (by kernel_rfl) rfl #[.int .u64 (IntKind.u64.wrap (x7_1))] rfl argA ?_; (with_reducible refine (bits_Len.calls (IntKind.u64.wrap (x7_1)) t179 _ A6.out).mono ?_); rintro e w' ⟨rfl, ⟨nd, rfl⟩⟩; refine ⟨_, rfl, ?_⟩))
      go_roundg k1
      case measure => have := HK1.out; omega
      case rel => exact ⟨(Go.bits .xor .i64 x7_1 (ji10)), (by first | rfl | (simp; done) | (simp only [← hji10] <;> (first | rfl | simp)) | (simp [*]; done)), H', ⟨by have := HK1.out; omega⟩, by repeat (first | exact Drawn0.refl _ | apply Drawn0.step)⟩
     ·rw [if_neg c9] at H
      exact absurd H (by simp)
 ·rw [if_neg c4] at H
  exact absurd H (by simp)

end Go.Proofs.Ytbbnagjfjgkgjaa.L
