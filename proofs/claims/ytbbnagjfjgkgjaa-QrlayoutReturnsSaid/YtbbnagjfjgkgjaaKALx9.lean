-- Written by a program of this session out of the kit's print of the loaded functions (see wip/).
import Derived.Test.YtbbnagjfjgkgjaaKALx0
import Derived.Test.YtbbnagjfjgkgjaaKALx5
import Derived.Test.YtbbnagjfjgkgjaaKALx6
import Derived.Test.YtbbnagjfjgkgjaaKALx7
import Derived.Test.YtbbnagjfjgkgjaaKALx8
namespace Go.Proofs.Ytbbnagjfjgkgjaa.L
open Go.RowKit Go.Proofs.YtbbnagjfjgkgjaaW.PrintWords Go.Proofs.YtbbnagjfjgkgjaaW.PrintLast Go.Proofs.YtbbnagjfjgkgjaaW.PrintMore
attribute [local go_sem] max2_int min2_int max_two min_two max_three min_three max_four min_four   -- for this text's walks alone
set_option linter.unusedVariables false
set_option linter.unusedSimpArgs false

def qrlayout_write.l0 : Nat → Int → List (S45) → Int → Int → Int → Int → List Bool → Option (List Bool)
 | 0, _, _, _, _, _, _, _ => none
 | k + 1, x2, x8, x9, x10, x213000, x213001, x213002 => if x10 < x9 then (if 0 ≤ x10 then (if x10 < (x8.length : Int) then (if 0 ≤ (wrap64 ((wrap64 (((rd_T45 x8 x10).f1) * x213000)) + ((rd_T45 x8 x10).f0))) then (if (wrap64 ((wrap64 (((rd_T45 x8 x10).f1) * x213000)) + ((rd_T45 x8 x10).f0))) < (x213002.length : Int) then (qrlayout_write.l0 k x2 x8 x9 (wrap64 (x10 + 1)) x213000 x213001 (x213002.set ((wrap64 ((wrap64 (((rd_T45 x8 x10).f1) * x213000)) + ((rd_T45 x8 x10).f0))) : Int).toNat ((Go.bits .and .i64 (shr .i64 x2 x10) 1) == 1))) else (none)) else (none)) else (none)) else (none)) else (some x213002)
def qrlayout_write.f (k : Nat) (a0_0 : Int) (a0_1 : Int) (l0_2 : List Bool) (l1 : List (S45)) (a2 : Int) : Option (List Bool) := qrlayout_write.l0 k a2 l1 (l1.length : Int) 0 a0_0 a0_1 l0_2
def qrlayout_write.T4 : Bool × List (List Nat × List Nat) := (true, [([], []), ([0], [0]), ([], []), ([2], [2]), ([], []), ([4], [4]), ([3, 5], [3, 5]), ([], []), ([7], [7]), ([6, 8], [6, 8]), ([], []), ([], []), ([10, 11], [10, 11]), ([12], [12]), ([13], [13]), ([1, 9, 0, 1, 2, 3, 4, 5, 6, 7, 8, 9, 10, 11, 12, 13, 14], [1, 9]), ([15, 14, 0, 1, 2, 3, 4, 5, 6, 7, 8, 9, 10, 11, 12, 13, 14], [14, 15])])
def qrlayout_write.B4 : List Nat := [0, 1, 0, 4, 0, 16, 60, 0, 128, 508, 0, 0, 3072, 7168, 15360, 32767, 65535]
theorem qrlayout_write.tab4 : rtab .any (opsOf Try.f47 4) = qrlayout_write.T4 := by kernel_rfl
theorem qrlayout_write.bits4 : waitsOk qrlayout_write.T4.2 qrlayout_write.B4 = true := by kernel_rfl
set_option maxHeartbeats 8000000 in
set_option maxRecDepth 100000 in
theorem qrlayout_write.calls (k : Nat) (a0_0 : Int) (a0_1 : Int) (P0_2_ : Nat → Prop) (u9000_ : Value) (l0_2 : List Bool) (A1 : Option Addr) (c1 : Nat) (l1 : List (S45)) (a2 : Int) (r : List Bool) (w0 w : World) (hB : Below w0.heap.size w0 w) (ho0_2 : Kd.R Kd.bool 4 w w0.heap.size P0_2_ u9000_ l0_2) (hr1 : ∀ W_, Kept w W_ (fun k_ => P0_2_ k_) → Kd.C k45 W_ A1 l1.length l1) (hc1 : l1.length ≤ c1) (h : qrlayout_write.f k a0_0 a0_1 l0_2 l1 a2 = some r) :
  Calls Try.prog 47 #[.agg #[.int .i64 a0_0, .int .i64 a0_1, u9000_], .slice A1 l1.length c1, .int .i64 a2] w fun e w' => e = .returned (.tuple #[]) ∧ Kd.R Kd.bool 4 w' w0.heap.size (fun k_ => (P0_2_ k_ ∨ w.heap.size ≤ k_)) u9000_ r ∧ Below w0.heap.size w0 w' ∧ Kept w w' (fun k_ => P0_2_ k_) := by
 have hu24 := Try.underlying24
 have hu45 := Try.underlying45
 have HO0_2 := Aside0.mk (show Kd.R Kd.bool 4 w w0.heap.size (fun k_ => (P0_2_ k_ ∨ w.heap.size ≤ k_)) u9000_ l0_2 from Kd.R_mono ho0_2 (fun k_ hk => (.inl hk)))
 have HR1 := Aside0.mk hr1
 have HC1 := Aside0.mk hc1
 clear hr1 hc1
 have HK := Aside0.mk (Kept.refl w (fun k_ => P0_2_ k_))
 have HW0 := Aside0.mk hB.size
 have HB := Aside0.mk hB
 clear hB
 have H : (qrlayout_write.l0 k a2 l1 (l1.length : Int) 0 a0_0 a0_1 l0_2) = some r := h
 clear h
 have H' := Aside0.mk H
 clear H
 obtain ⟨Ao4, co4, eo4⟩ := Kd.R_slice HO0_2.out
 subst eo4
 go_enter Try.func47, Try.ntmps47
 go_wp2_with (first | ((with_reducible refine gate_dst (N := 3) rfl ?_); refine boxE (N := 3) (cs := #[.int .i64 a0_0, .int .i64 a0_1, .slice Ao4 l0_2.length co4]) (t := 24) ?_; intro gb212 hg w5 hbox hb; have BK212 := Aside0.mk (hbox); have GW212 := Aside0.mk ((by rw [hg]; exact (by first | exact HK.out.1 | exact (show Kept w _ (fun k_ => P0_2_ k_) from by repeat (first | (with_reducible first | exact HK.out | apply Kept.alloc | apply Kept.drewN | apply Kept.drew) | exact HK.out)).1) : w.heap.size ≤ gb212)); have GE212 := Aside0.mk ((szA hg HB.out : w0.heap.size ≤ gb212)); replace HO0_2 := Aside0.mk (Kd.R_below (rowA HO0_2.out) hb); replace HK := Aside0.mk (Kept.below (S := (fun k_ => P0_2_ k_)) (by repeat (first | (with_reducible first | exact HK.out | apply Kept.alloc | apply Kept.drewN | apply Kept.drew) | exact HK.out)) hb); replace HB := Aside0.mk (below_step (belA HB.out) hb); clear hb hbox hg))
 go_loopg [10] k (fun kq v10 w' => ∃ (x10_1 : Int) (x213002_1 : List Bool), v10 = .int .i64 x10_1 ∧ Aside0 (qrlayout_write.l0 kq a2 l1 (l1.length : Int) x10_1 a0_0 a0_1 x213002_1 = some r) ∧ Aside0 (kq ≤ k) ∧ Aside0 (Kd.R Kd.bool 4 w' w0.heap.size (fun k_ => (P0_2_ k_ ∨ w.heap.size ≤ k_)) (.slice Ao4 l0_2.length co4) x213002_1) ∧ Aside0 (w'.heap[gb212]? = some (.cells #[.int .i64 a0_0, .int .i64 a0_1, (.slice Ao4 l0_2.length co4)] 24 (0, 0))) ∧ Aside0 (Kept w w' (fun k_ => P0_2_ k_)) ∧ Aside0 (Below w0.heap.size w0 w'))
 case atStart => exact ⟨(0), (l0_2), smpA, H', ⟨Nat.le_refl _⟩, ⟨rowA HO0_2.out⟩, ⟨blkA BK212.out⟩, ⟨by repeat (first | (with_reducible first | exact HK.out | apply Kept.alloc | apply Kept.drewN | apply Kept.drew | refine Kept.setCell ?_ (.inr GW212.out) _) | exact HK.out)⟩, ⟨belA HB.out⟩⟩
 case round =>
  clear H'
  try clear c1
  try clear p2
  try clear c4
  obtain ⟨x10_1, x213002_1, rfl, HA, HK1, HO_213002, BK212, HK, HB⟩ := hrel
  have hl213002_1 := (Kd.R_reads' HO_213002.out).1
  rw [hl213002_1] at HO_213002
  (try simp only [hl213002_1])
  (try simp only [hl213002_1] at BK212)
  cases gk with
  | zero => exact absurd HA.out (by simp [qrlayout_write.l0])
  | succ k1 =>
   have H := HA.out
   clear HA
   simp only [qrlayout_write.l0] at H
   by_cases c6 : x10_1 < (l1.length : Int)
   ·rw [if_pos c6] at H
    have c6b0 : decide (x10_1 < (l1.length : Int)) = true := decide_eq_true c6
    clear c6
    by_cases c7 : 0 ≤ x10_1
    ·rw [if_pos c7] at H
     have c7b0 : decide (0 ≤ x10_1) = true := decide_eq_true c7
     clear c7
     by_cases c8 : x10_1 < (l1.length : Int)
     ·rw [if_pos c8] at H
      have c8b0 : decide (x10_1 < (l1.length : Int)) = true := decide_eq_true c8
      clear c8
      have c9b0 := eq_true (of_decide_eq_true (by first | (with_reducible assumption) | assumption) : 0 ≤ x10_1)
      obtain ⟨ji10, hji10⟩ : ∃ j_ : Int, (shr .i64 a2 x10_1) = j_ := ⟨_, rfl⟩
      replace H : (if 0 ≤ (wrap64 ((wrap64 (((rd_T45 l1 x10_1).f1) * a0_0)) + ((rd_T45 l1 x10_1).f0))) then (if (wrap64 ((wrap64 (((rd_T45 l1 x10_1).f1) * a0_0)) + ((rd_T45 l1 x10_1).f0))) < (x213002_1.length : Int) then (qrlayout_write.l0 k1 a2 l1 (l1.length : Int) (wrap64 (x10_1 + 1)) a0_0 a0_1 (x213002_1.set ((wrap64 ((wrap64 (((rd_T45 l1 x10_1).f1) * a0_0)) + ((rd_T45 l1 x10_1).f0))) : Int).toNat ((Go.bits .and .i64 (ji10) 1) == 1))) else (none)) else (none)) = some r := by first | (rw [hji10] at H; exact H) | (simp only [hji10] at H ⊢; exact H)
      have hji10_ : (a2 / 2 ^ min x10_1.toNat 64) = ji10 := hji10
      have hji10z : x10_1 ≤ 64 → (a2 / 2 ^ x10_1.toNat) = ji10 := shr_small hji10
      obtain ⟨ji11, hji11⟩ : ∃ j_ : Int, (wrap64 ((wrap64 (((rd_T45 l1 x10_1).f1) * a0_0)) + ((rd_T45 l1 x10_1).f0))) = j_ := ⟨_, rfl⟩
      replace H : (if 0 ≤ (ji11) then (if (ji11) < (x213002_1.length : Int) then (qrlayout_write.l0 k1 a2 l1 (l1.length : Int) (wrap64 (x10_1 + 1)) a0_0 a0_1 (x213002_1.set ((ji11) : Int).toNat ((Go.bits .and .i64 (ji10) 1) == 1))) else (none)) else (none)) = some r := by first | (rw [hji11] at H; exact H) | (simp only [hji11] at H ⊢; exact H)
      have hji11w : (IntKind.i64.wrap ((wrap64 (((rd_T45 l1 x10_1).f1) * a0_0)) + ((rd_T45 l1 x10_1).f0))) = ji11 := (i64_w _).trans hji11
      by_cases c12 : 0 ≤ (ji11)
      ·rw [if_pos c12] at H
       have c12b0 : decide (0 ≤ (ji11)) = true := decide_eq_true c12
       clear c12
       by_cases c13 : (ji11) < (x213002_1.length : Int)
       ·rw [if_pos c13] at H
        have c13b0 : decide ((ji11) < (x213002_1.length : Int)) = true := decide_eq_true c13
        clear c13
        obtain ⟨y215, hy215⟩ : ∃ y_ : List Bool, y_ = (x213002_1.set ((ji11) : Int).toNat ((Go.bits .and .i64 (ji10) 1) == 1)) := ⟨_, rfl⟩
        replace H : (qrlayout_write.l0 k1 a2 l1 (l1.length : Int) (wrap64 (x10_1 + 1)) a0_0 a0_1 y215) = some r := by first | (rw [hy215]; with_reducible exact H) | (have H2_ := (Option.bind_some _ _).symm.trans H; rw [hy215]; with_reducible exact H2_) | (have H2_ := (Option.bind_some _ _).symm.trans H; with_reducible exact H2_) | with_reducible exact H | (rw [hy215]; exact H) | exact H
        have Ny215 := Aside0.mk hy215
        clear hy215
        have H' := Aside0.mk H
        clear H
        have p213 : 0 ≤ (x10_1 : Int) := of_decide_eq_true (by first | (with_reducible assumption) | assumption)
        have q213 : x10_1 < (l1.length : Int) := of_decide_eq_true (by first | (with_reducible assumption) | assumption)
        obtain ⟨ad213, e213, hx213_0, hx213_1⟩ := at_T45 (Kd.C_kept_now HR1.out HK.out) x10_1 p213 q213
        cases e213
        replace p213 := eq_true p213
        replace q213 := eq_true q213
        try go_wp2_with (first | ((with_reducible refine gate_dst (N := 7) rfl ?_); refine boxE (N := 7) (cs := #[.int .i64 0, .int .i64 0]) (t := 45) ?_; intro gb214 hg w15 hbox hb; have BK214 := Aside0.mk (hbox); have GW214 := Aside0.mk ((by rw [hg]; exact (by first | exact HK.out.1 | exact (show Kept w _ (fun k_ => P0_2_ k_) from by repeat (first | (with_reducible first | exact HK.out | apply Kept.alloc | apply Kept.drewN | apply Kept.drew | refine Kept.setCell ?_ (.inr GW212.out) _) | exact HK.out)).1) : w.heap.size ≤ gb214)); have GE214 := Aside0.mk ((szA hg HB.out : w0.heap.size ≤ gb214)); have NB212_214 := Aside0.mk ((neL hg BK212.out : gb212 ≠ gb214)); have NB214_212 := Aside0.mk ((neG hg BK212.out : gb214 ≠ gb212)); replace HO_213002 := Aside0.mk (Kd.R_below (rowA HO_213002.out) hb); replace BK212 := Aside0.mk (blk_below (g := gb212) (o := .cells #[.int .i64 a0_0, .int .i64 a0_1, .slice Ao4 x213002_1.length co4] 24 (0, 0)) (blkA BK212.out) hb); replace HK := Aside0.mk (Kept.below (S := (fun k_ => P0_2_ k_)) (by repeat (first | (with_reducible first | exact HK.out | apply Kept.alloc | apply Kept.drewN | apply Kept.drew | refine Kept.setCell ?_ (.inr GW212.out) _) | exact HK.out)) hb); replace HB := Aside0.mk (below_step (belA HB.out) hb); clear hb hbox hg; have hnb16 := NB214_212.out; have hnc16 := NB212_214.out; obtain ⟨hcz17_0, hcz17_1, hfz17_0, hfz17_1⟩ := bk2 BK214.out))
        have n0_ : Aside0 (Kd.R Kd.bool 4 ((w15.setCell ⟨gb214, 0, none⟩ (.int .i64 ((rd_T45 l1 x10_1).f0))).setCell ⟨gb214, 1, none⟩ (.int .i64 ((rd_T45 l1 x10_1).f1))) w0.heap.size (fun k_ => (P0_2_ k_ ∨ w.heap.size ≤ k_)) (.slice Ao4 x213002_1.length co4) x213002_1) := ⟨by (with_reducible repeat (first | apply Kd.R_alloc | apply Kd.R_drewN | apply Kd.R_drew)); exact Kd.R_mono (Kd.R_far (p := ⟨gb214, 1, none⟩) (Kd.R_far (p := ⟨gb214, 0, none⟩) (Kd.R_types HO_213002.out BK214.out (by decide)) (fun _ hk => hk.2) (.int .i64 ((rd_T45 l1 x10_1).f0))) (fun _ hk => hk.2) (.int .i64 ((rd_T45 l1 x10_1).f1))) (fun _ hk => hk.1)⟩
        have n1_ : Aside0 (((w15.setCell ⟨gb214, 0, none⟩ (.int .i64 ((rd_T45 l1 x10_1).f0))).setCell ⟨gb214, 1, none⟩ (.int .i64 ((rd_T45 l1 x10_1).f1))).heap[gb212]? = some (.cells #[.int .i64 a0_0, .int .i64 a0_1, .slice Ao4 x213002_1.length co4] 24 (0, 0))) := ⟨blkB BK212.out⟩
        have n2_ : Aside0 (((w15.setCell ⟨gb214, 0, none⟩ (.int .i64 ((rd_T45 l1 x10_1).f0))).setCell ⟨gb214, 1, none⟩ (.int .i64 ((rd_T45 l1 x10_1).f1))).heap[gb214]? = some (.cells #[.int .i64 ((rd_T45 l1 x10_1).f0), .int .i64 ((rd_T45 l1 x10_1).f1)] 45 (0, 0))) := ⟨blkB BK214.out⟩
        have n3_ : Aside0 (Kept w ((w15.setCell ⟨gb214, 0, none⟩ (.int .i64 ((rd_T45 l1 x10_1).f0))).setCell ⟨gb214, 1, none⟩ (.int .i64 ((rd_T45 l1 x10_1).f1))) (fun k_ => P0_2_ k_)) := ⟨by repeat (first | (with_reducible first | exact HK.out | apply Kept.alloc | apply Kept.drewN | apply Kept.drew | refine Kept.setCell ?_ (.inr GW212.out) _ | refine Kept.setCell ?_ (.inr GW214.out) _) | exact HK.out)⟩
        have n4_ : Aside0 (Below w0.heap.size w0 ((w15.setCell ⟨gb214, 0, none⟩ (.int .i64 ((rd_T45 l1 x10_1).f0))).setCell ⟨gb214, 1, none⟩ (.int .i64 ((rd_T45 l1 x10_1).f1)))) := ⟨belA HB.out⟩
        (try clear HO_213002)
        (try clear BK212)
        (try clear BK214)
        (try clear HK)
        (try clear HB)
        generalize ((w15.setCell ⟨gb214, 0, none⟩ (.int .i64 ((rd_T45 l1 x10_1).f0))).setCell ⟨gb214, 1, none⟩ (.int .i64 ((rd_T45 l1 x10_1).f1))) = w18 at n0_ n1_ n2_ n3_ n4_ ⊢
        have HO_213002 := n0_
        have BK212 := n1_
        have BK214 := n2_
        have HK := n3_
        have HB := n4_
        clear n0_ n1_ n2_ n3_ n4_
        have n0_ := Aside0.mk (Kd.R_drew HO_213002.out)
        have n1_ := Aside0.mk (blk_drew BK212.out)
        have n2_ := Aside0.mk (blk_drew BK214.out)
        have n3_ := Aside0.mk (Kept.drew HK.out)
        have n4_ := Aside0.mk (below_drew1 HB.out)
        clear HO_213002
        clear BK212
        clear BK214
        clear HK
        clear HB
        have HO_213002 := n0_
        have BK212 := n1_
        have BK214 := n2_
        have HK := n3_
        have HB := n4_
        clear n0_ n1_ n2_ n3_ n4_
        have p14 : 0 ≤ ((ji11) : Int) := of_decide_eq_true (by first | (with_reducible assumption) | assumption)
        have q14 : ((ji11) : Int) < ((x213002_1.length : Int) : Int) := of_decide_eq_true (by first | (with_reducible assumption) | assumption)
        obtain ⟨go14, co14, eo14, gb14, gl14, cl14, HG14⟩ := Kd.R_form HO_213002.out (by omega)
        (first | cases eo14 | (injection eo14 with ea_ en_ ec_; (first | subst ea_ | (injection ea_ with ea_; subst ea_)); subst ec_; clear en_))
        have GB14 := Aside0.mk gb14
        have GG14 := Aside0.mk HG14
        clear gb14 gl14 HG14
        have HMgo14 := Aside0.mk (show (P0_2_ go14 ∨ w.heap.size ≤ go14) from (HO_213002.out.1 _ rfl))
        obtain ⟨hx14_0, hf14_0⟩ := Kd.R_celln false HO_213002.out ((ji11) : Int) p14 q14
        replace p14 := eq_true p14
        replace q14 := eq_true q14
        have HP20 := Kd.R_putn HO_213002.out ((ji11) : Int) ((Go.bits .and .i64 (ji10) 1) == 1)
        rw [← Ny215.out] at HP20
        have HQ20 := Aside0.mk HP20
        clear HP20
        refine start_ (n := 17) (S := fun w' => w'.cell? ⟨gb212, 0, none⟩ = some (.int .i64 a0_0) ∧ w'.cell? ⟨gb212, 1, none⟩ = some (.int .i64 a0_1) ∧ w'.cell? ⟨gb212, 2, none⟩ = some (.slice (some ⟨go14, 0, none⟩) x213002_1.length co4) ∧ w'.cell? ⟨gb214, 0, none⟩ = some (.int .i64 ((rd_T45 l1 x10_1).f0)) ∧ w'.cell? ⟨gb214, 1, none⟩ = some (.int .i64 ((rd_T45 l1 x10_1).f1))) (ds := [16]) #[false, false, false, false, false, false, false, false, false, false, false, false, false, false, false, false, false] (by kernel_rfl) rfl rfl ⟨(blk_cell BK212.out 0).trans rfl, (blk_cell BK212.out 1).trans rfl, (blk_cell BK212.out 2).trans rfl, (blk_cell BK214.out 0).trans rfl, (blk_cell BK214.out 1).trans rfl⟩ (fun hHeld => ?_); refine with_tabW qrlayout_write.tab4 qrlayout_write.bits4 (fun HT_ HW_ => ?_)
        generalize w18.drew = w19 at HO_213002 BK212 BK214 HK HB GG14 HQ20 hf14_0 hx14_0 hHeld ⊢
        refine pure_ (i := 0) (N := some 15) (v := ?_) (a' := ?_) #[true, false, false, false, false, false, false, false, false, false, false, false, false, false, false, false, false] rfl rfl (any_of HT_.out (by kernel_rfl)) (fun _ _ _ h => h) (Or.inl ⟨by rfl, ?_⟩) ?_ ?_
        rotate_left
        ·intro w'
         go_simp
         with_reducible rfl
        rotate_left
        ·simp only [Act.put, List.setIfInBounds_toArray, List.set_cons_zero, List.set_cons_succ, i64_w, i32_w]
         rfl
        refine pure_ (i := 2) (N := some 17) (v := ?_) (a' := ?_) #[true, false, true, false, false, false, false, false, false, false, false, false, false, false, false, false, false] rfl rfl (any_of HT_.out (by kernel_rfl)) (fun _ _ _ h => h) (Or.inl ⟨by rfl, ?_⟩) ?_ ?_
        rotate_left
        ·intro w'
         go_simp
         with_reducible rfl
        rotate_left
        ·simp only [Act.put, List.setIfInBounds_toArray, List.set_cons_zero, List.set_cons_succ, i64_w, i32_w]
         rfl
        refine pure_ (i := 4) (N := some 19) (v := ?_) (a' := ?_) #[true, false, true, false, true, false, false, false, false, false, false, false, false, false, false, false, false] rfl rfl (any_of HT_.out (by kernel_rfl)) (fun _ _ _ h => h) (Or.inl ⟨by rfl, ?_⟩) ?_ ?_
        rotate_left
        ·intro w'
         go_simp
         with_reducible rfl
        rotate_left
        ·simp only [Act.put, List.setIfInBounds_toArray, List.set_cons_zero, List.set_cons_succ, i64_w, i32_w]
         rfl
        refine pure_ (i := 7) (N := some 22) (v := ?_) (a' := ?_) #[true, false, true, false, true, false, false, true, false, false, false, false, false, false, false, false, false] rfl rfl (any_of HT_.out (by kernel_rfl)) (fun _ _ _ h => h) (Or.inl ⟨by rfl, ?_⟩) ?_ ?_
        rotate_left
        ·intro w'
         go_simp
         with_reducible rfl
        rotate_left
        ·simp only [Act.put, List.setIfInBounds_toArray, List.set_cons_zero, List.set_cons_succ, i64_w, i32_w]
         rfl
        refine pure_ (i := 10) (N := some 25) (v := ?_) (a' := ?_) #[true, false, true, false, true, false, false, true, false, false, true, false, false, false, false, false, false] rfl rfl (any_of HT_.out (by kernel_rfl)) (fun _ _ _ h => h) (Or.inl ⟨by rfl, ?_⟩) ?_ ?_
        rotate_left
        ·intro w'
         go_simp
         with_reducible rfl
        rotate_left
        ·simp only [Act.put, List.setIfInBounds_toArray, List.set_cons_zero, List.set_cons_succ, i64_w, i32_w]
         rfl
        refine pure_ (i := 11) (N := some 26) (v := ?_) (a' := ?_) #[true, false, true, false, true, false, false, true, false, false, true, true, false, false, false, false, false] rfl rfl (any_of HT_.out (by kernel_rfl)) (fun _ _ _ h => h) (Or.inl ⟨by rfl, ?_⟩) ?_ ?_
        rotate_left
        ·intro w'
         go_simp
         with_reducible rfl
        rotate_left
        ·simp only [Act.put, List.setIfInBounds_toArray, List.set_cons_zero, List.set_cons_succ, i64_w, i32_w]
         rfl
        refine pure_ (i := 12) (N := some 27) (v := ?_) (a' := ?_) #[true, false, true, false, true, false, false, true, false, false, true, true, true, false, false, false, false] rfl rfl (any_of HT_.out (by kernel_rfl)) (fun _ _ _ h => h) (Or.inl ⟨by rfl, ?_⟩) ?_ ?_
        rotate_left
        ·intro w'
         go_simp
         with_reducible rfl
        rotate_left
        ·simp only [Act.put, List.setIfInBounds_toArray, List.set_cons_zero, List.set_cons_succ, i64_w, i32_w]
         rfl
        refine pure_ (i := 13) (N := some 28) (v := ?_) (a' := ?_) #[true, false, true, false, true, false, false, true, false, false, true, true, true, true, false, false, false] rfl rfl (any_of HT_.out (by kernel_rfl)) (fun _ _ _ h => h) (Or.inl ⟨by rfl, ?_⟩) ?_ ?_
        rotate_left
        ·intro w'
         go_simp
         with_reducible rfl
        rotate_left
        ·simp only [Act.put, List.setIfInBounds_toArray, List.set_cons_zero, List.set_cons_succ, i64_w, i32_w]
         rfl
        refine pure_ (i := 14) (N := some 29) (v := ?_) (a' := ?_) #[true, false, true, false, true, false, false, true, false, false, true, true, true, true, true, false, false] rfl rfl (any_of HT_.out (by kernel_rfl)) (fun _ _ _ h => h) (Or.inl ⟨by rfl, ?_⟩) ?_ ?_
        rotate_left
        ·intro w'
         go_simp
         with_reducible rfl
        rotate_left
        ·simp only [Act.put, List.setIfInBounds_toArray, List.set_cons_zero, List.set_cons_succ, i64_w, i32_w]
         rfl
        refine take_ (i := 1) (N := some 16) (v := ?_) (a' := ?_) #[true, true, true, false, true, false, false, true, false, false, true, true, true, true, true, false, false] rfl rfl (take_ofW HT_.out HW_.out (by kernel_rfl)) (fun _ _ _ h => h) (Or.inl ⟨by rfl, ?_⟩) hHeld ?_ ?_
        rotate_left
        ·rintro w' ⟨s0, s1, s2, s3, s4⟩
         go_simp
         with_reducible rfl
        rotate_left
        ·simp only [Act.put, List.setIfInBounds_toArray, List.set_cons_zero, List.set_cons_succ, i64_w, i32_w]
         rfl
        refine take_ (i := 3) (N := some 18) (v := ?_) (a' := ?_) #[true, true, true, true, true, false, false, true, false, false, true, true, true, true, true, false, false] rfl rfl (take_ofW HT_.out HW_.out (by kernel_rfl)) (fun _ _ _ h => h) (Or.inl ⟨by rfl, ?_⟩) hHeld ?_ ?_
        rotate_left
        ·rintro w' ⟨s0, s1, s2, s3, s4⟩
         go_simp
         with_reducible rfl
        rotate_left
        ·simp only [Act.put, List.setIfInBounds_toArray, List.set_cons_zero, List.set_cons_succ, i64_w, i32_w]
         rfl
        refine take_ (i := 5) (N := some 20) (v := ?_) (a' := ?_) #[true, true, true, true, true, true, false, true, false, false, true, true, true, true, true, false, false] rfl rfl (take_ofW HT_.out HW_.out (by kernel_rfl)) (fun _ _ _ h => h) (Or.inl ⟨by rfl, ?_⟩) hHeld ?_ ?_
        rotate_left
        ·rintro w' ⟨s0, s1, s2, s3, s4⟩
         go_simp
         with_reducible rfl
        rotate_left
        ·simp only [Act.put, List.setIfInBounds_toArray, List.set_cons_zero, List.set_cons_succ, i64_w, i32_w]
         rfl
        refine pure_ (i := 6) (N := some 21) (v := ?_) (a' := ?_) #[true, true, true, true, true, true, true, true, false, false, true, true, true, true, true, false, false] rfl rfl (any_of HT_.out (by kernel_rfl)) (fun _ _ _ h => h) (Or.inl ⟨by rfl, ?_⟩) ?_ ?_
        rotate_left
        ·intro w'
         go_simp
         with_reducible rfl
        rotate_left
        ·simp only [Act.put, List.setIfInBounds_toArray, List.set_cons_zero, List.set_cons_succ, i64_w, i32_w]
         rfl
        refine take_ (i := 8) (N := some 23) (v := ?_) (a' := ?_) #[true, true, true, true, true, true, true, true, true, false, true, true, true, true, true, false, false] rfl rfl (take_ofW HT_.out HW_.out (by kernel_rfl)) (fun _ _ _ h => h) (Or.inl ⟨by rfl, ?_⟩) hHeld ?_ ?_
        rotate_left
        ·rintro w' ⟨s0, s1, s2, s3, s4⟩
         go_simp
         with_reducible rfl
        rotate_left
        ·simp only [Act.put, List.setIfInBounds_toArray, List.set_cons_zero, List.set_cons_succ, i64_w, i32_w]
         rfl
        refine pure_ (i := 9) (N := some 24) (v := ?_) (a' := ?_) #[true, true, true, true, true, true, true, true, true, true, true, true, true, true, true, false, false] rfl rfl (any_of HT_.out (by kernel_rfl)) (fun _ _ _ h => h) (Or.inl ⟨by rfl, ?_⟩) ?_ ?_
        rotate_left
        ·intro w'
         go_simp
         with_reducible rfl
        rotate_left
        ·simp only [Act.put, List.setIfInBounds_toArray, List.set_cons_zero, List.set_cons_succ, i64_w, i32_w]
         rfl
        refine pure_ (i := 15) (N := some 30) (v := ?_) (a' := ?_) #[true, true, true, true, true, true, true, true, true, true, true, true, true, true, true, true, false] rfl rfl (any_of HT_.out (by kernel_rfl)) (fun _ _ _ h => h) (Or.inl ⟨by rfl, ?_⟩) ?_ ?_
        rotate_left
        ·intro w'
         go_simp
         with_reducible rfl
        rotate_left
        ·simp only [Act.put, List.setIfInBounds_toArray, List.set_cons_zero, List.set_cons_succ, i64_w, i32_w]
         rfl
        refine last_ (i := 16) (N := none) #[true, true, true, true, true, true, true, true, true, true, true, true, true, true, true, true, true] rfl rfl (one_of HT_.out (by kernel_rfl)) (by decide) (fun K hK => ?_)
        refine skip_ (w1 := ?_) (by rfl) rfl ?_ ?_
        rotate_left
        ·go_simp
         rfl
        refine hK.out _ _ ?_
        clear hK K
        refine done_ (done_of HT_.out (by kernel_rfl)) ?_
        try go_wp2
        (try simp only [← hl213002_1])
        go_roundg k1
        case measure => have := HK1.out; omega
        case rel => exact ⟨(wrap64 (x10_1 + 1)), (y215), smpA, H', ⟨by have := HK1.out; omega⟩, ⟨by (try simp only [hl213002_1]); (with_reducible repeat (first | apply Kd.R_alloc | apply Kd.R_drewN | apply Kd.R_drew)); exact HQ20.out⟩, ⟨by (try simp only [hl213002_1]); (with_reducible repeat (first | refine blk_drewN ?_ _ | refine blk_drew ?_ | refine blk_alloc ?_ _)); refine blk_far ?_ (by have h_ := Kd.R_ne HO_213002.out BK212.out (by decide); intro e_; exact h_ (by rw [e_]; rfl)) _; (with_reducible repeat (first | refine blk_drewN ?_ _ | refine blk_drew ?_ | refine blk_alloc ?_ _)); exact BK212.out⟩, ⟨by repeat (first | (with_reducible first | exact HK.out | apply Kept.alloc | apply Kept.drewN | apply Kept.drew | refine Kept.setCell ?_ HMgo14.out _ | refine Kept.setCell ?_ (.inr GW212.out) _ | refine Kept.setCell ?_ (.inr GW214.out) _) | exact HK.out)⟩, ⟨belA HB.out⟩⟩
       ·rw [if_neg c13] at H
        exact absurd H (by simp)
      ·rw [if_neg c12] at H
       exact absurd H (by simp)
     ·rw [if_neg c8] at H
      exact absurd H (by simp)
    ·rw [if_neg c7] at H
     exact absurd H (by simp)
   ·rw [if_neg c6] at H
    have c6b0 : decide (x10_1 < (l1.length : Int)) = false := decide_eq_false c6
    clear c6
    obtain rfl := Option.some.inj H
    go_wp2
    first | go_end0 | ((try simp only [Exit.inBlock, Exit.then]); refine bodyPost_ret (results_none rfl _ _ _) rfl ?_)
    exact ⟨errA, (by first | exact (rowA HO_213002.out) | (simp only [hl213002_1]; exact (rowA HO_213002.out))), belA HB.out, by repeat (first | (with_reducible first | exact HK.out | apply Kept.alloc | apply Kept.drewN | apply Kept.drew | refine Kept.setCell ?_ (.inr GW212.out) _) | exact HK.out)⟩

def bch_Version.f (k : Nat) (a0 : Int) : Option (Int × Int) := if a0 < 7 then (some (0, 14)) else (if a0 > 40 then (some (0, 14)) else ((bch_codeword.f k a0 7973).bind fun t216 => (some (t216, 0))))
set_option maxHeartbeats 8000000 in
set_option maxRecDepth 100000 in
theorem bch_Version.calls (k : Nat) (a0 : Int) (r1 : Int) (r2 : Int) (w : World) (h : bch_Version.f k a0 = some (r1, r2)) :
  Calls Try.prog 48 #[.int .i64 a0] w fun e w' => e = .returned (.tuple #[.int .i64 r1, .int .i64 r2]) ∧ Drawn0 w w' := by
 have H : (if a0 < 7 then (some (0, 14)) else (if a0 > 40 then (some (0, 14)) else ((bch_codeword.f k a0 7973).bind fun t216 => (some (t216, 0))))) = some (r1, r2) := h
 clear h
 by_cases c2 : a0 < 7
 ·rw [if_pos c2] at H
  have c2b0 : decide (a0 < 7) = true := decide_eq_true c2
  clear c2
  simp only [Option.some.injEq, Prod.mk.injEq] at H
  obtain ⟨rfl, rfl⟩ := H
  go_enter Try.func48, Try.ntmps48
  go_wp2
  go_ret2
  exact ⟨by first | rfl | (simp; done) | (simp [*]; done), by repeat (first | exact Drawn0.refl _ | apply Drawn0.step)⟩
 ·rw [if_neg c2] at H
  have c2b0 : decide (a0 < 7) = false := decide_eq_false c2
  clear c2
  by_cases c3 : a0 > 40
  ·rw [if_pos c3] at H
   have c3b0 : decide (40 < a0) = true := decide_eq_true c3
   clear c3
   simp only [Option.some.injEq, Prod.mk.injEq] at H
   obtain ⟨rfl, rfl⟩ := H
   go_enter Try.func48, Try.ntmps48
   go_wp2
   go_ret2
   exact ⟨by first | rfl | (simp; done) | (simp [*]; done), by repeat (first | exact Drawn0.refl _ | apply Drawn0.step)⟩
  ·rw [if_neg c3] at H
   have c3b0 : decide (40 < a0) = false := decide_eq_false c3
   clear c3
   replace H := Option.bind_eq_some_iff.mp H
   obtain ⟨t216, A40, H⟩ := H
   replace H : (some (t216, 0)) = some (r1, r2) := H
   have A4 := Aside0.mk A40
   clear A40
   simp only [Option.some.injEq, Prod.mk.injEq] at H
   obtain ⟨rfl, rfl⟩ := H
   go_enter Try.func48, Try.ntmps48
   go_wp2_with (first | ((with_reducible refine gate_callee (f := 76) rfl ?_); refine goesL_ (some 11) rfl rfl Try.func76 (by kernel_rfl) rfl #[.int .i64 a0, .int .i64 7973] rfl argA ?_; (with_reducible refine (bch_codeword.calls k a0 7973 t216 _ A4.out).mono ?_); rintro e w' ⟨rfl, ⟨nd, rfl⟩⟩; refine ⟨_, rfl, ?_⟩))
   go_ret2
   exact ⟨by first | rfl | (simp; done) | (simp [*]; done), by repeat (first | exact Drawn0.refl _ | apply Drawn0.step)⟩

def qrlayout_frame_info.l0 : Nat → Int → Int → Int → List Int → List (S45) → List (S45) → Option ((List (S45)) × (List (S45)))
 | 0, _, _, _, _, _, _ => none
 | k + 1, x7, x299000, x299001, x299002, x301000, x301001 => if x7 < 18 then (if x301000.length < 8796093022208 then (if x301001.length < 8796093022208 then (qrlayout_frame_info.l0 k (wrap64 (x7 + 1)) x299000 x299001 x299002 (x301000 ++ [(⟨wrap64 ((wrap64 (x299001 - 11)) + (Int.tmod x7 3)), wrap64 (Int.tdiv x7 3)⟩ : S45)]) (x301001 ++ [(⟨wrap64 (Int.tdiv x7 3), wrap64 ((wrap64 (x299001 - 11)) + (Int.tmod x7 3))⟩ : S45)])) else (none)) else (none)) else (some (x301000, x301001))
def qrlayout_frame_info.f (k : Nat) (a0_0 : Int) (a0_1 : Int) (l0_2 : List Int) : Option ((List (S45)) × (List (S45))) := qrlayout_frame_info.l0 k 0 a0_0 a0_1 l0_2 ([] : List (S45)) ([] : List (S45))
set_option maxHeartbeats 8000000 in
set_option maxRecDepth 100000 in
theorem qrlayout_frame_info.calls (k : Nat) (a0_0 : Int) (a0_1 : Int) (A0_2 : Option Addr) (c0_2 : Nat) (l0_2 : List Int) (r1 : List (S45)) (r2 : List (S45)) (w : World) (hr0_2 : Kd.C (Kd.int .i64) w A0_2 l0_2.length l0_2) (hc0_2 : l0_2.length ≤ c0_2) (h : qrlayout_frame_info.f k a0_0 a0_1 l0_2 = some (r1, r2)) :
  Calls Try.prog 49 #[.agg #[.int .i64 a0_0, .int .i64 a0_1, .slice A0_2 l0_2.length c0_2]] w fun e w' => ∃ v0_ v1_ : Value, e = .returned (.agg #[v0_, v1_]) ∧ Kd.R k45 45 w' w.heap.size (fun k_ => some k_ ≠ (v1_ : Value).ownBlock) v0_ r1 ∧ Kd.R k45 45 w' w.heap.size (fun k_ => some k_ ≠ (v0_ : Value).ownBlock) v1_ r2 ∧ Below w.heap.size w w' := by
 have hu69 := Try.underlying69
 have hu81 := Try.underlying81
 have hu45 := Try.underlying45
 have HR0_2 := Aside0.mk hr0_2
 have HC0_2 := Aside0.mk hc0_2
 clear hr0_2 hc0_2
 have HB := Aside0.mk (Below.refl w.heap.size w)
 have H : (qrlayout_frame_info.l0 k 0 a0_0 a0_1 l0_2 ([] : List (S45)) ([] : List (S45))) = some (r1, r2) := h
 clear h
 have H' := Aside0.mk H
 clear H
 go_enter Try.func49, Try.ntmps49
 go_wp2_with (first | ((with_reducible refine gate_dst (N := 1) rfl ?_); refine boxE (N := 1) (cs := #[.int .i64 a0_0, .int .i64 a0_1, .slice A0_2 l0_2.length c0_2]) (t := 69) ?_; intro gb298 hg w2 hbox hb; have BK298 := Aside0.mk (hbox); have GW298 := Aside0.mk ((szA hg HB.out : w.heap.size ≤ gb298)); have GE298 := Aside0.mk ((szA hg HB.out : w.heap.size ≤ gb298)); replace HB := Aside0.mk (below_step (belA HB.out) hb); clear hb hbox hg) | ((with_reducible refine gate_dst (N := 2) rfl ?_); refine boxE (N := 2) (cs := #[.slice none 0 0, .slice none 0 0]) (t := 81) ?_; intro gb299 hg w3 hbox hb; have BK299 := Aside0.mk (hbox); have GW299 := Aside0.mk ((szA hg HB.out : w.heap.size ≤ gb299)); have GE299 := Aside0.mk ((szA hg HB.out : w.heap.size ≤ gb299)); have NB298_299 := Aside0.mk ((neL hg BK298.out : gb298 ≠ gb299)); have NB299_298 := Aside0.mk ((neG hg BK298.out : gb299 ≠ gb298)); replace BK298 := Aside0.mk (blk_below (g := gb298) (o := .cells #[.int .i64 a0_0, .int .i64 a0_1, .slice A0_2 l0_2.length c0_2] 69 (0, 0)) (blkA BK298.out) hb); replace HB := Aside0.mk (below_step (belA HB.out) hb); clear hb hbox hg) | ((with_reducible refine gate_dst (N := 3) rfl ?_); refine boxE (N := 3) (cs := #[.slice none 0 0, .slice none 0 0]) (t := 81) ?_; intro gb300 hg w4 hbox hb; have BK300 := Aside0.mk (hbox); have GW300 := Aside0.mk ((szA hg HB.out : w.heap.size ≤ gb300)); have GE300 := Aside0.mk ((szA hg HB.out : w.heap.size ≤ gb300)); have NB298_300 := Aside0.mk ((neL hg BK298.out : gb298 ≠ gb300)); have NB300_298 := Aside0.mk ((neG hg BK298.out : gb300 ≠ gb298)); have NB299_300 := Aside0.mk ((neL hg BK299.out : gb299 ≠ gb300)); have NB300_299 := Aside0.mk ((neG hg BK299.out : gb300 ≠ gb299)); replace BK298 := Aside0.mk (blk_below (g := gb298) (o := .cells #[.int .i64 a0_0, .int .i64 a0_1, .slice A0_2 l0_2.length c0_2] 69 (0, 0)) (blkA BK298.out) hb); replace BK299 := Aside0.mk (blk_below (g := gb299) (o := .cells #[.slice none 0 0, .slice none 0 0] 81 (0, 0)) (blkA BK299.out) hb); replace HB := Aside0.mk (below_step (belA HB.out) hb); clear hb hbox hg))
 go_loopg [7] k (fun kq v7 w' => ∃ (x7_1 : Int) (x301000_1 : List (S45)) (x301001_1 : List (S45)) (u301000 : Value) (u301001 : Value), v7 = .int .i64 x7_1 ∧ Aside0 (qrlayout_frame_info.l0 kq x7_1 a0_0 a0_1 l0_2 x301000_1 x301001_1 = some (r1, r2)) ∧ Aside0 (kq ≤ k) ∧ Aside0 (Kd.R k45 45 w' w.heap.size (fun k_ => some k_ ≠ (u301001 : Value).ownBlock) u301000 x301000_1) ∧ Aside0 (Kd.R k45 45 w' w.heap.size (fun k_ => some k_ ≠ (u301000 : Value).ownBlock) u301001 x301001_1) ∧ Aside0 (w'.heap[gb298]? = some (.cells #[.int .i64 a0_0, .int .i64 a0_1, (.slice A0_2 l0_2.length c0_2)] 69 (0, 0))) ∧ Aside0 (w'.heap[gb299]? = some (.cells #[(.slice none 0 0), (.slice none 0 0)] 81 (0, 0))) ∧ Aside0 (w'.heap[gb300]? = some (.cells #[u301000, u301001] 81 (0, 0))) ∧ Aside0 (Below w.heap.size w w'))
 case atStart => exact ⟨(0), (([] : List (S45))), (([] : List (S45))), (.slice none 0 0), (.slice none 0 0), smpA, H', ⟨Nat.le_refl _⟩, ⟨nilA⟩, ⟨nilA⟩, ⟨blkA BK298.out⟩, ⟨blkA BK299.out⟩, ⟨blkA BK300.out⟩, ⟨belA HB.out⟩⟩
 case round =>
  clear H'
  try clear p2
  try clear c4
  obtain ⟨x7_1, x301000_1, x301001_1, u301000, u301001, rfl, HA, HK1, HO_301000, HO_301001, BK298, BK299, BK300, HB⟩ := hrel
  cases gk with
  | zero => exact absurd HA.out (by simp [qrlayout_frame_info.l0])
  | succ k1 =>
   have H := HA.out
   clear HA
   simp only [qrlayout_frame_info.l0] at H
   by_cases c5 : x7_1 < 18
   ·rw [if_pos c5] at H
    have c5b0 : decide (x7_1 < 18) = true := decide_eq_true c5
    clear c5
    by_cases c6 : x301000_1.length < 8796093022208
    ·rw [if_pos c6] at H
     have LMc6 := Aside0.mk c6
     clear c6
     obtain ⟨y301, hy301⟩ : ∃ y_ : List (S45), y_ = (x301000_1 ++ [(⟨wrap64 ((wrap64 (a0_1 - 11)) + (Int.tmod x7_1 3)), wrap64 (Int.tdiv x7_1 3)⟩ : S45)]) := ⟨_, rfl⟩
     replace H : (if x301001_1.length < 8796093022208 then (qrlayout_frame_info.l0 k1 (wrap64 (x7_1 + 1)) a0_0 a0_1 l0_2 y301 (x301001_1 ++ [(⟨wrap64 (Int.tdiv x7_1 3), wrap64 ((wrap64 (a0_1 - 11)) + (Int.tmod x7_1 3))⟩ : S45)])) else (none)) = some (r1, r2) := by first | (rw [hy301]; with_reducible exact H) | (have H2_ := (Option.bind_some _ _).symm.trans H; rw [hy301]; with_reducible exact H2_) | (have H2_ := (Option.bind_some _ _).symm.trans H; with_reducible exact H2_) | with_reducible exact H | (rw [hy301]; exact H) | exact H
     have Ny301 := Aside0.mk hy301
     clear hy301
     by_cases c7 : x301001_1.length < 8796093022208
     ·rw [if_pos c7] at H
      have LMc7 := Aside0.mk c7
      clear c7
      obtain ⟨y304, hy304⟩ : ∃ y_ : List (S45), y_ = (x301001_1 ++ [(⟨wrap64 (Int.tdiv x7_1 3), wrap64 ((wrap64 (a0_1 - 11)) + (Int.tmod x7_1 3))⟩ : S45)]) := ⟨_, rfl⟩
      replace H : (qrlayout_frame_info.l0 k1 (wrap64 (x7_1 + 1)) a0_0 a0_1 l0_2 y301 y304) = some (r1, r2) := by first | (rw [hy304]; with_reducible exact H) | (have H2_ := (Option.bind_some _ _).symm.trans H; rw [hy304]; with_reducible exact H2_) | (have H2_ := (Option.bind_some _ _).symm.trans H; with_reducible exact H2_) | with_reducible exact H | (rw [hy304]; exact H) | exact H
      have Ny304 := Aside0.mk hy304
      clear hy304
      have H' := Aside0.mk H
      clear H
      have hnb8 := NB298_299.out
      have hnc8 := NB299_298.out
      have hnb9 := NB298_300.out
      have hnc9 := NB300_298.out
      obtain ⟨hcz10_0, hcz10_1, hcz10_2, hfz10_0, hfz10_1, hfz10_2⟩ := bk3 BK298.out
      have hnb11 := NB300_299.out
      have hnc11 := NB299_300.out
      obtain ⟨hcz12_0, hcz12_1, hfz12_0, hfz12_1⟩ := bk2 BK300.out
      go_wp2_with (first | ((with_reducible refine gate_builtin (b := .append) (xs := #[.tmp 19, .tmp 23]) rfl ?_); at_builtin; refine Kd.R_append k45 (w0 := w) w.heap.size rfl (.tmp 19) (.tmp 23) 51 45 (.agg #[(.int .i64 0), (.int .i64 0)]) 16 rfl Try.underlying51 info45 rfl (by decide) (by omega) u301000 x301000_1 (⟨wrap64 ((wrap64 (a0_1 - 11)) + (Int.tmod x7_1 3)), wrap64 (Int.tdiv x7_1 3)⟩ : S45) [.int .i64 (wrap64 ((wrap64 (a0_1 - 11)) + (Int.tmod x7_1 3))), .int .i64 (wrap64 (Int.tdiv x7_1 3))] (fun k_ => some k_ ≠ (u301001 : Value).ownBlock) (fun _ => False) rfl rfl ?aP (fun _ hk => hk.elim) ?aF ?aO ?aB ?aS ?aL ?_; (case aP => exact k45_mkM _ _ _ (⟨wrap64 ((wrap64 (a0_1 - 11)) + (Int.tmod x7_1 3)), wrap64 (Int.tdiv x7_1 3)⟩ : S45)); (case aB => exact (belA HB.out)); (case aF => exact (fun k_ hk => Kd.fresh' (Kd.R_lt (rowA HO_301001.out)) k_ hk)); (case aO => exact (rowA HO_301000.out)); (case aS => exact (below_size (belA HB.out))); (case aL => have := LMc6.out; omega); intro v302 w13 ho hb hg hat; rw [← Ny301.out] at ho; have n0_ := Aside0.mk (Kd.R_after (ok := (fun _ => True)) (by (with_reducible repeat (first | apply Kd.R_alloc | apply Kd.R_drewN | apply Kd.R_drew)); exact Kd.R_mono HO_301001.out (fun _ hk => ⟨trivial, hk⟩)) hg hat); have n1_ := Aside0.mk (blk_grown (g := gb298) (o := .cells #[.int .i64 a0_0, .int .i64 a0_1, .slice A0_2 l0_2.length c0_2] 69 (0, 0)) (blkA BK298.out) hg (Kd.R_ne HO_301000.out BK298.out (by decide))); have n2_ := Aside0.mk (blk_grown (g := gb299) (o := .cells #[.slice none 0 0, .slice none 0 0] 81 (0, 0)) (blkA BK299.out) hg (Kd.R_ne HO_301000.out BK299.out (by decide))); have n3_ := Aside0.mk (blk_grown (g := gb300) (o := .cells #[u301000, u301001] 81 (0, 0)) (blkA BK300.out) hg (Kd.R_ne HO_301000.out BK300.out (by decide))); have n4_ := Aside0.mk (hb); have n5_ := Aside0.mk (ho); clear HO_301001; clear BK298; clear BK299; clear BK300; clear HB; clear HO_301000; have HO_301001 := n0_; have BK298 := n1_; have BK299 := n2_; have BK300 := n3_; have HB := n4_; have HO303 := n5_; clear n0_ n1_ n2_ n3_ n4_ n5_; clear ho hb hg hat; obtain ⟨Ao14, co14, eo14⟩ := Kd.R_slice HO303.out; subst eo14; obtain ⟨hcz15_0, hcz15_1, hfz15_0, hfz15_1⟩ := bk2 BK300.out) | ((with_reducible refine gate_builtin (b := .append) (xs := #[.tmp 27, .tmp 31]) rfl ?_); at_builtin; refine Kd.R_append k45 (w0 := w) w.heap.size rfl (.tmp 27) (.tmp 31) 51 45 (.agg #[(.int .i64 0), (.int .i64 0)]) 16 rfl Try.underlying51 info45 rfl (by decide) (by omega) u301001 x301001_1 (⟨wrap64 (Int.tdiv x7_1 3), wrap64 ((wrap64 (a0_1 - 11)) + (Int.tmod x7_1 3))⟩ : S45) [.int .i64 (wrap64 (Int.tdiv x7_1 3)), .int .i64 (wrap64 ((wrap64 (a0_1 - 11)) + (Int.tmod x7_1 3)))] (fun k_ => some k_ ≠ (.slice Ao14 y301.length co14 : Value).ownBlock) (fun _ => False) rfl (by first | (go_simp; done) | (go_simp; rfl)) ?aP (fun _ hk => hk.elim) ?aF ?aO ?aB ?aS ?aL ?_; (case aP => exact k45_mkM _ _ _ (⟨wrap64 (Int.tdiv x7_1 3), wrap64 ((wrap64 (a0_1 - 11)) + (Int.tmod x7_1 3))⟩ : S45)); (case aB => exact (belA HB.out)); (case aF => exact (fun k_ hk => Kd.fresh' (Kd.R_lt (by (with_reducible repeat (first | apply Kd.R_alloc | apply Kd.R_drewN | apply Kd.R_drew)); exact (Kd.R_mono (Kd.R_far (p := ⟨gb300, 0, none⟩) (Kd.R_types HO303.out BK300.out (by decide)) (fun _ hk => hk.2) (.slice Ao14 y301.length co14)) (fun _ h_ => h_.1)))) k_ hk)); (case aO => exact (by (with_reducible repeat (first | apply Kd.R_alloc | apply Kd.R_drewN | apply Kd.R_drew)); exact Kd.R_mono (Kd.R_far (p := ⟨gb300, 0, none⟩) (Kd.R_types HO_301001.out BK300.out (by decide)) (fun _ hk => hk.2) (.slice Ao14 y301.length co14)) (fun _ hk => hk.1.2))); (case aS => exact (below_size (belA HB.out))); (case aL => have := LMc7.out; omega); intro v305 w16 ho hb hg hat; rw [← Ny304.out] at ho; have n0_ := Aside0.mk (blk_grown (g := gb298) (o := .cells #[.int .i64 a0_0, .int .i64 a0_1, .slice A0_2 l0_2.length c0_2] 69 (0, 0)) (blkB BK298.out) hg (Kd.R_ne HO_301001.out BK298.out (by decide))); have n1_ := Aside0.mk (blk_grown (g := gb299) (o := .cells #[.slice none 0 0, .slice none 0 0] 81 (0, 0)) (blkB BK299.out) hg (Kd.R_ne HO_301001.out BK299.out (by decide))); have n2_ := Aside0.mk (blk_grown (g := gb300) (o := .cells #[.slice Ao14 y301.length co14, u301001] 81 (0, 0)) (blkB BK300.out) hg (Kd.R_ne HO_301001.out BK300.out (by decide))); have n3_ := Aside0.mk (Kd.R_after (ok := (fun _ => True)) (by (with_reducible repeat (first | apply Kd.R_alloc | apply Kd.R_drewN | apply Kd.R_drew)); exact Kd.R_mono (Kd.R_far (p := ⟨gb300, 0, none⟩) (Kd.R_types HO303.out BK300.out (by decide)) (fun _ hk => hk.2) (.slice Ao14 y301.length co14)) (fun _ hk => ⟨trivial, hk.1⟩)) hg hat); have n4_ := Aside0.mk (hb); have n5_ := Aside0.mk (ho); clear BK298; clear BK299; clear BK300; clear HO303; clear HB; clear HO_301001; have BK298 := n0_; have BK299 := n1_; have BK300 := n2_; have HO303 := n3_; have HB := n4_; have HO306 := n5_; clear n0_ n1_ n2_ n3_ n4_ n5_; clear ho hb hg hat; obtain ⟨Ao17, co17, eo17⟩ := Kd.R_slice HO306.out; subst eo17; obtain ⟨hcz18_0, hcz18_1, hfz18_0, hfz18_1⟩ := bk2 BK300.out))
      go_roundg k1
      case measure => have := HK1.out; omega
      case rel => exact ⟨(wrap64 (x7_1 + 1)), (y301), (y304), (.slice Ao14 y301.length co14), (.slice Ao17 y304.length co17), smpA, H', ⟨by have := HK1.out; omega⟩, ⟨by (with_reducible repeat (first | apply Kd.R_alloc | apply Kd.R_drewN | apply Kd.R_drew)); exact Kd.R_mono (Kd.R_far (p := ⟨gb300, 1, none⟩) (Kd.R_types HO303.out BK300.out (by decide)) (fun _ hk => hk.2) (.slice Ao17 y304.length co17)) (fun _ hk => hk.1.2)⟩, ⟨by (with_reducible repeat (first | apply Kd.R_alloc | apply Kd.R_drewN | apply Kd.R_drew)); exact Kd.R_mono (Kd.R_far (p := ⟨gb300, 1, none⟩) (Kd.R_types HO306.out BK300.out (by decide)) (fun _ hk => hk.2) (.slice Ao17 y304.length co17)) (fun _ hk => hk.1)⟩, ⟨blkB BK298.out⟩, ⟨blkB BK299.out⟩, ⟨blkB BK300.out⟩, ⟨belA HB.out⟩⟩
     ·rw [if_neg c7] at H
      exact absurd H (by simp)
    ·rw [if_neg c6] at H
     exact absurd H (by simp)
   ·rw [if_neg c5] at H
    have c5b0 : decide (x7_1 < 18) = false := decide_eq_false c5
    clear c5
    simp only [Option.some.injEq, Prod.mk.injEq] at H
    obtain ⟨rfl, rfl⟩ := H
    have hnb19 := NB300_298.out
    have hnc19 := NB298_300.out
    have hnb20 := NB300_299.out
    have hnc20 := NB299_300.out
    obtain ⟨hcz21_0, hcz21_1, hfz21_0, hfz21_1⟩ := bk2 BK300.out
    obtain ⟨Ao22, co22, eo22⟩ := Kd.R_slice HO_301000.out
    subst eo22
    have hnb23 := NB299_298.out
    have hnc23 := NB298_299.out
    obtain ⟨hcz24_0, hcz24_1, hfz24_0, hfz24_1⟩ := bk2 BK299.out
    obtain ⟨Ao25, co25, eo25⟩ := Kd.R_slice HO_301001.out
    subst eo25
    go_wp2
    refine bodyPost_ret (results_cell_row rfl _ _ gb299 81 #[.slice Ao22 x301000_1.length co22, .slice Ao25 x301001_1.length co25] (0, 0) _ rfl (blkB BK299.out) Try.underlying81 rfl (by kernel_rfl)) rfl ?_
    exact ⟨_, _, errA, by (with_reducible repeat (first | apply Kd.R_alloc | apply Kd.R_drewN | apply Kd.R_drew)); exact Kd.R_mono (Kd.R_far (p := ⟨gb299, 1, none⟩) (Kd.R_far (p := ⟨gb299, 0, none⟩) (Kd.R_types HO_301000.out BK299.out (by decide)) (fun _ hk => hk.2) (.slice Ao22 x301000_1.length co22)) (fun _ hk => hk.2) (.slice Ao25 x301001_1.length co25)) (fun _ hk => hk.1), by (with_reducible repeat (first | apply Kd.R_alloc | apply Kd.R_drewN | apply Kd.R_drew)); exact Kd.R_mono (Kd.R_far (p := ⟨gb299, 1, none⟩) (Kd.R_far (p := ⟨gb299, 0, none⟩) (Kd.R_types HO_301001.out BK299.out (by decide)) (fun _ hk => hk.2) (.slice Ao22 x301000_1.length co22)) (fun _ hk => hk.2) (.slice Ao25 x301001_1.length co25)) (fun _ hk => hk.1), belA HB.out⟩

theorem index81_0 (v0 v1 : Value) (w : World) : Sem.run Try.prog (Instr.index 81 (.agg #[v0, v1]) (.int .i64 0)) w = .ok v0 w := by
 have hu81 := Try.underlying81
 have hu51 := Try.underlying51
 unfold Instr.index
 go_simp
theorem index81_1 (v0 v1 : Value) (w : World) : Sem.run Try.prog (Instr.index 81 (.agg #[v0, v1]) (.int .i64 1)) w = .ok v1 w := by
 have hu81 := Try.underlying81
 have hu51 := Try.underlying51
 unfold Instr.index
 go_simp
attribute [local go_sem] index81_0 index81_1
def qrlayout_Sign.f (k : Nat) (a0_0 : Int) (a0_1 : Int) (l0_2 : List Bool) (a1 : Int) (a2 : Int) : Option (Int × Int × List Bool × Int) := (qrlayout_sized.f k a0_0 a0_1 l0_2).bind fun bt228 => (if bt228.2.2.2 = 0 then ((bch_Format.f k a1 a2).bind fun bt235 => (if bt235.2 = 0 then ((qrlayout_clone.f a0_0 a0_1 l0_2).bind fun bt237 => ((qrlayout_frame_format.f k bt228.1 bt228.2.1 bt228.2.2.1).bind fun bt243 => ((qrlayout_write.f k bt237.1 bt237.2.1 bt237.2.2 bt243.1 bt235.1).bind fun t249 => ((qrlayout_write.f k bt237.1 bt237.2.1 t249 bt243.2 bt235.1).bind fun t250 => ((bch_Version.f k bt228.1).bind fun bt251 => (if bt251.2 = 0 then ((qrlayout_frame_info.f k bt228.1 bt228.2.1 bt228.2.2.1).bind fun bt253 => ((qrlayout_write.f k bt237.1 bt237.2.1 t250 bt253.1 bt251.1).bind fun t259 => ((qrlayout_write.f k bt237.1 bt237.2.1 t259 bt253.2 bt251.1).bind fun t260 => (some (bt237.1, bt237.2.1, t260, 0))))) else (some (bt237.1, bt237.2.1, t250, 0)))))))) else (some (0, 0, ([] : List Bool), bt235.2)))) else (some (0, 0, ([] : List Bool), bt228.2.2.2)))
set_option maxHeartbeats 8000000 in
set_option maxRecDepth 100000 in
theorem qrlayout_Sign.calls (k : Nat) (a0_0 : Int) (a0_1 : Int) (A0_2 : Option Addr) (c0_2 : Nat) (l0_2 : List Bool) (a1 : Int) (a2 : Int) (r1 : Int) (r2 : Int) (r3 : List Bool) (r4 : Int) (w : World) (hr0_2 : Kd.C Kd.bool w A0_2 l0_2.length l0_2) (hc0_2 : l0_2.length ≤ c0_2) (h : qrlayout_Sign.f k a0_0 a0_1 l0_2 a1 a2 = some (r1, r2, r3, r4)) :
  Calls Try.prog 17 #[.agg #[.int .i64 a0_0, .int .i64 a0_1, .slice A0_2 l0_2.length c0_2], .int .i64 a1, .int .i64 a2] w fun e w' => ∃ v2_ : Value, e = .returned (.tuple #[.agg #[.int .i64 r1, .int .i64 r2, v2_], .int .i64 r4]) ∧ Kd.R Kd.bool 4 w' w.heap.size (fun _ => True) v2_ r3 ∧ Below w.heap.size w w' := by
 have hu24 := Try.underlying24
 have hu69 := Try.underlying69
 have hu81 := Try.underlying81
 have HR0_2 := Aside0.mk hr0_2
 have HC0_2 := Aside0.mk hc0_2
 clear hr0_2 hc0_2
 have HB := Aside0.mk (Below.refl w.heap.size w)
 have H : ((qrlayout_sized.f k a0_0 a0_1 l0_2).bind fun bt228 => (if bt228.2.2.2 = 0 then ((bch_Format.f k a1 a2).bind fun bt235 => (if bt235.2 = 0 then ((qrlayout_clone.f a0_0 a0_1 l0_2).bind fun bt237 => ((qrlayout_frame_format.f k bt228.1 bt228.2.1 bt228.2.2.1).bind fun bt243 => ((qrlayout_write.f k bt237.1 bt237.2.1 bt237.2.2 bt243.1 bt235.1).bind fun t249 => ((qrlayout_write.f k bt237.1 bt237.2.1 t249 bt243.2 bt235.1).bind fun t250 => ((bch_Version.f k bt228.1).bind fun bt251 => (if bt251.2 = 0 then ((qrlayout_frame_info.f k bt228.1 bt228.2.1 bt228.2.2.1).bind fun bt253 => ((qrlayout_write.f k bt237.1 bt237.2.1 t250 bt253.1 bt251.1).bind fun t259 => ((qrlayout_write.f k bt237.1 bt237.2.1 t259 bt253.2 bt251.1).bind fun t260 => (some (bt237.1, bt237.2.1, t260, 0))))) else (some (bt237.1, bt237.2.1, t250, 0)))))))) else (some (0, 0, ([] : List Bool), bt235.2)))) else (some (0, 0, ([] : List Bool), bt228.2.2.2)))) = some (r1, r2, r3, r4) := h
 clear h
 replace H := Option.bind_eq_some_iff.mp H
 obtain ⟨⟨t228, t229, t230, t233⟩, A40, H⟩ := H
 replace H : (if t233 = 0 then ((bch_Format.f k a1 a2).bind fun bt235 => (if bt235.2 = 0 then ((qrlayout_clone.f a0_0 a0_1 l0_2).bind fun bt237 => ((qrlayout_frame_format.f k t228 t229 t230).bind fun bt243 => ((qrlayout_write.f k bt237.1 bt237.2.1 bt237.2.2 bt243.1 bt235.1).bind fun t249 => ((qrlayout_write.f k bt237.1 bt237.2.1 t249 bt243.2 bt235.1).bind fun t250 => ((bch_Version.f k t228).bind fun bt251 => (if bt251.2 = 0 then ((qrlayout_frame_info.f k t228 t229 t230).bind fun bt253 => ((qrlayout_write.f k bt237.1 bt237.2.1 t250 bt253.1 bt251.1).bind fun t259 => ((qrlayout_write.f k bt237.1 bt237.2.1 t259 bt253.2 bt251.1).bind fun t260 => (some (bt237.1, bt237.2.1, t260, 0))))) else (some (bt237.1, bt237.2.1, t250, 0)))))))) else (some (0, 0, ([] : List Bool), bt235.2)))) else (some (0, 0, ([] : List Bool), t233))) = some (r1, r2, r3, r4) := H
 have A4 := Aside0.mk A40
 clear A40
 by_cases c5 : t233 = 0
 ·rw [if_pos c5] at H
  have c5b0 : (t233 == 0) = true := beq_iff_eq.mpr c5
  have c5b1 : (t233 != 0) = false := bne_eq_false_iff_eq.mpr c5
  clear c5
  replace H := Option.bind_eq_some_iff.mp H
  obtain ⟨⟨t235, t236⟩, A60, H⟩ := H
  replace H : (if t236 = 0 then ((qrlayout_clone.f a0_0 a0_1 l0_2).bind fun bt237 => ((qrlayout_frame_format.f k t228 t229 t230).bind fun bt243 => ((qrlayout_write.f k bt237.1 bt237.2.1 bt237.2.2 bt243.1 t235).bind fun t249 => ((qrlayout_write.f k bt237.1 bt237.2.1 t249 bt243.2 t235).bind fun t250 => ((bch_Version.f k t228).bind fun bt251 => (if bt251.2 = 0 then ((qrlayout_frame_info.f k t228 t229 t230).bind fun bt253 => ((qrlayout_write.f k bt237.1 bt237.2.1 t250 bt253.1 bt251.1).bind fun t259 => ((qrlayout_write.f k bt237.1 bt237.2.1 t259 bt253.2 bt251.1).bind fun t260 => (some (bt237.1, bt237.2.1, t260, 0))))) else (some (bt237.1, bt237.2.1, t250, 0)))))))) else (some (0, 0, ([] : List Bool), t236))) = some (r1, r2, r3, r4) := H
  have A6 := Aside0.mk A60
  clear A60
  by_cases c7 : t236 = 0
  ·rw [if_pos c7] at H
   have c7b0 : (t236 == 0) = true := beq_iff_eq.mpr c7
   have c7b1 : (t236 != 0) = false := bne_eq_false_iff_eq.mpr c7
   clear c7
   replace H := Option.bind_eq_some_iff.mp H
   obtain ⟨⟨t237, t238, t239⟩, A80, H⟩ := H
   replace H : ((qrlayout_frame_format.f k t228 t229 t230).bind fun bt243 => ((qrlayout_write.f k t237 t238 t239 bt243.1 t235).bind fun t249 => ((qrlayout_write.f k t237 t238 t249 bt243.2 t235).bind fun t250 => ((bch_Version.f k t228).bind fun bt251 => (if bt251.2 = 0 then ((qrlayout_frame_info.f k t228 t229 t230).bind fun bt253 => ((qrlayout_write.f k t237 t238 t250 bt253.1 bt251.1).bind fun t259 => ((qrlayout_write.f k t237 t238 t259 bt253.2 bt251.1).bind fun t260 => (some (t237, t238, t260, 0))))) else (some (t237, t238, t250, 0))))))) = some (r1, r2, r3, r4) := H
   have A8 := Aside0.mk A80
   clear A80
   replace H := Option.bind_eq_some_iff.mp H
   obtain ⟨⟨t243, t246⟩, A90, H⟩ := H
   replace H : ((qrlayout_write.f k t237 t238 t239 t243 t235).bind fun t249 => ((qrlayout_write.f k t237 t238 t249 t246 t235).bind fun t250 => ((bch_Version.f k t228).bind fun bt251 => (if bt251.2 = 0 then ((qrlayout_frame_info.f k t228 t229 t230).bind fun bt253 => ((qrlayout_write.f k t237 t238 t250 bt253.1 bt251.1).bind fun t259 => ((qrlayout_write.f k t237 t238 t259 bt253.2 bt251.1).bind fun t260 => (some (t237, t238, t260, 0))))) else (some (t237, t238, t250, 0)))))) = some (r1, r2, r3, r4) := H
   have A9 := Aside0.mk A90
   clear A90
   replace H := Option.bind_eq_some_iff.mp H
   obtain ⟨t249, A100, H⟩ := H
   replace H : ((qrlayout_write.f k t237 t238 t249 t246 t235).bind fun t250 => ((bch_Version.f k t228).bind fun bt251 => (if bt251.2 = 0 then ((qrlayout_frame_info.f k t228 t229 t230).bind fun bt253 => ((qrlayout_write.f k t237 t238 t250 bt253.1 bt251.1).bind fun t259 => ((qrlayout_write.f k t237 t238 t259 bt253.2 bt251.1).bind fun t260 => (some (t237, t238, t260, 0))))) else (some (t237, t238, t250, 0))))) = some (r1, r2, r3, r4) := H
   have A10 := Aside0.mk A100
   clear A100
   replace H := Option.bind_eq_some_iff.mp H
   obtain ⟨t250, A110, H⟩ := H
   replace H : ((bch_Version.f k t228).bind fun bt251 => (if bt251.2 = 0 then ((qrlayout_frame_info.f k t228 t229 t230).bind fun bt253 => ((qrlayout_write.f k t237 t238 t250 bt253.1 bt251.1).bind fun t259 => ((qrlayout_write.f k t237 t238 t259 bt253.2 bt251.1).bind fun t260 => (some (t237, t238, t260, 0))))) else (some (t237, t238, t250, 0)))) = some (r1, r2, r3, r4) := H
   have A11 := Aside0.mk A110
   clear A110
   replace H := Option.bind_eq_some_iff.mp H
   obtain ⟨⟨t251, t252⟩, A120, H⟩ := H
   replace H : (if t252 = 0 then ((qrlayout_frame_info.f k t228 t229 t230).bind fun bt253 => ((qrlayout_write.f k t237 t238 t250 bt253.1 t251).bind fun t259 => ((qrlayout_write.f k t237 t238 t259 bt253.2 t251).bind fun t260 => (some (t237, t238, t260, 0))))) else (some (t237, t238, t250, 0))) = some (r1, r2, r3, r4) := H
   have A12 := Aside0.mk A120
   clear A120
   by_cases c13 : t252 = 0
   ·rw [if_pos c13] at H
    have c13b0 : (t252 == 0) = true := beq_iff_eq.mpr c13
    have c13b1 : (t252 != 0) = false := bne_eq_false_iff_eq.mpr c13
    clear c13
    replace H := Option.bind_eq_some_iff.mp H
    obtain ⟨⟨t253, t256⟩, A140, H⟩ := H
    replace H : ((qrlayout_write.f k t237 t238 t250 t253 t251).bind fun t259 => ((qrlayout_write.f k t237 t238 t259 t256 t251).bind fun t260 => (some (t237, t238, t260, 0)))) = some (r1, r2, r3, r4) := H
    have A14 := Aside0.mk A140
    clear A140
    replace H := Option.bind_eq_some_iff.mp H
    obtain ⟨t259, A150, H⟩ := H
    replace H : ((qrlayout_write.f k t237 t238 t259 t256 t251).bind fun t260 => (some (t237, t238, t260, 0))) = some (r1, r2, r3, r4) := H
    have A15 := Aside0.mk A150
    clear A150
    replace H := Option.bind_eq_some_iff.mp H
    obtain ⟨t260, A160, H⟩ := H
    replace H : (some (t237, t238, t260, 0)) = some (r1, r2, r3, r4) := H
    have A16 := Aside0.mk A160
    clear A160
    simp only [Option.some.injEq, Prod.mk.injEq] at H
    obtain ⟨rfl, rfl, rfl, rfl⟩ := H
    go_enter Try.func17, Try.ntmps17
    iterate 7 ((first | (with_reducible refine wp_loop_rounds 3 ?_) | skip); (first | rw [rounds_succ] | skip); (try (go_wp2_with (first | ((with_reducible refine gate_dst (N := 3) rfl ?_); refine boxE (N := 3) (cs := #[.int .i64 a0_0, .int .i64 a0_1, .slice A0_2 l0_2.length c0_2]) (t := 24) ?_; intro gb226 hg w17 hbox hb; have BK226 := Aside0.mk (hbox); have GW226 := Aside0.mk ((szA hg HB.out : w.heap.size ≤ gb226)); have GE226 := Aside0.mk ((szA hg HB.out : w.heap.size ≤ gb226)); replace HB := Aside0.mk (below_step (belA HB.out) hb); clear hb hbox hg) | ((with_reducible refine gate_dst (N := 6) rfl ?_); refine boxE (N := 6) (cs := #[.int .i64 0, .int .i64 0, .slice none 0 0]) (t := 24) ?_; intro gb227 hg w18 hbox hb; have BK227 := Aside0.mk (hbox); have GW227 := Aside0.mk ((szA hg HB.out : w.heap.size ≤ gb227)); have GE227 := Aside0.mk ((szA hg HB.out : w.heap.size ≤ gb227)); have NB226_227 := Aside0.mk ((neL hg BK226.out : gb226 ≠ gb227)); have NB227_226 := Aside0.mk ((neG hg BK226.out : gb227 ≠ gb226)); replace BK226 := Aside0.mk (blk_below (g := gb226) (o := .cells #[.int .i64 a0_0, .int .i64 a0_1, .slice A0_2 l0_2.length c0_2] 24 (0, 0)) (blkA BK226.out) hb); replace HB := Aside0.mk (below_step (belA HB.out) hb); clear hb hbox hg; have hnb19 := NB226_227.out; have hnc19 := NB227_226.out; obtain ⟨hcz20_0, hcz20_1, hcz20_2, hfz20_0, hfz20_1, hfz20_2⟩ := bk3 BK226.out) | ((with_reducible refine gate_callee (f := 40) rfl ?_); refine goesL_ (some 20) rfl rfl Try.func40 (by kernel_rfl) rfl #[.agg #[.int .i64 a0_0, .int .i64 a0_1, .slice A0_2 l0_2.length c0_2]] rfl argA ?_; (with_reducible refine (qrlayout_sized.calls k a0_0 a0_1 _ _ l0_2 t228 t229 t230 t233 _ ?side1 ?side2 A4.out).mono ?_); (case side1 => exact lowA (Kd.C_below HR0_2.out HB.out)); (case side2 => exact HC0_2.out); rintro e w21 ⟨v231, rfl, ho0, hb⟩; refine ⟨_, rfl, ?_⟩; have HO232 := Aside0.mk (Kd.R_lower ho0 (below_size (belA HB.out))); replace BK226 := Aside0.mk (blk_below (g := gb226) (o := .cells #[.int .i64 a0_0, .int .i64 a0_1, .slice A0_2 l0_2.length c0_2] 24 (0, 0)) (blkA BK226.out) hb); replace BK227 := Aside0.mk (blk_below (g := gb227) (o := .cells #[.int .i64 0, .int .i64 0, .slice none 0 0] 24 (0, 0)) (blkA BK227.out) hb); replace HB := Aside0.mk (below_step (belA HB.out) hb); (try clear hb); (try clear hb2); (try clear hk); (try clear hi); (try clear ho0)) | ((with_reducible refine gate_dst (N := 8) rfl ?_); refine boxE (N := 8) (cs := #[.int .i64 0, .int .i64 0, .slice none 0 0]) (t := 69) ?_; intro gb234 hg w22 hbox hb; have BK234 := Aside0.mk (hbox); have GW234 := Aside0.mk ((szA hg HB.out : w.heap.size ≤ gb234)); have GE234 := Aside0.mk ((szA hg HB.out : w.heap.size ≤ gb234)); have NB226_234 := Aside0.mk ((neL hg BK226.out : gb226 ≠ gb234)); have NB234_226 := Aside0.mk ((neG hg BK226.out : gb234 ≠ gb226)); have NB227_234 := Aside0.mk ((neL hg BK227.out : gb227 ≠ gb234)); have NB234_227 := Aside0.mk ((neG hg BK227.out : gb234 ≠ gb227)); replace HO232 := Aside0.mk (Kd.R_below (rowA HO232.out) hb); replace BK226 := Aside0.mk (blk_below (g := gb226) (o := .cells #[.int .i64 a0_0, .int .i64 a0_1, .slice A0_2 l0_2.length c0_2] 24 (0, 0)) (blkA BK226.out) hb); replace BK227 := Aside0.mk (blk_below (g := gb227) (o := .cells #[.int .i64 0, .int .i64 0, .slice none 0 0] 24 (0, 0)) (blkA BK227.out) hb); replace HB := Aside0.mk (below_step (belA HB.out) hb); clear hb hbox hg; have hnb23 := NB234_226.out; have hnc23 := NB226_234.out; have hnb24 := NB234_227.out; have hnc24 := NB227_234.out; obtain ⟨hcz25_0, hcz25_1, hcz25_2, hfz25_0, hfz25_1, hfz25_2⟩ := bk3 BK234.out; obtain ⟨Ao26, co26, eo26⟩ := Kd.R_slice HO232.out; subst eo26) | ((with_reducible refine gate_callee (f := 44) rfl ?_); refine goesL_ (some 30) rfl rfl Try.func44 (by kernel_rfl) rfl #[.int .i64 a1, .int .i64 a2] rfl argA ?_; (with_reducible refine (bch_Format.calls k a1 a2 t235 t236 _ A6.out).mono ?_); rintro e w' ⟨rfl, ⟨nd, rfl⟩⟩; refine ⟨_, rfl, ?_⟩; obtain ⟨hcz27_0, hcz27_1, hcz27_2, hfz27_0, hfz27_1, hfz27_2⟩ := bk3 BK226.out) | ((with_reducible refine gate_callee (f := 45) rfl ?_); refine goesL_ (some 38) rfl rfl Try.func45 (by kernel_rfl) rfl #[.agg #[.int .i64 a0_0, .int .i64 a0_1, .slice A0_2 l0_2.length c0_2]] rfl argA ?_; (with_reducible refine (qrlayout_clone.calls a0_0 a0_1 _ _ l0_2 t237 t238 t239 _ ?side1 ?side2 A8.out).mono ?_); (case side1 => exact Kd.C_below HR0_2.out (belA HB.out)); (case side2 => exact HC0_2.out); rintro e w28 ⟨v240, rfl, ho0, hb⟩; refine ⟨_, rfl, ?_⟩; have HO241 := Aside0.mk (Kd.R_lower ho0 (below_size (belA HB.out))); replace HO232 := Aside0.mk (Kd.R_below (by (with_reducible repeat (first | apply Kd.R_alloc | apply Kd.R_drewN | apply Kd.R_drew)); exact (Kd.R_mono (Kd.R_far (p := ⟨gb234, 2, none⟩) (Kd.R_far (p := ⟨gb234, 1, none⟩) (Kd.R_far (p := ⟨gb234, 0, none⟩) (Kd.R_types HO232.out BK234.out (by decide)) (fun _ hk => hk.2) (.int .i64 t228)) (fun _ hk => hk.2) (.int .i64 t229)) (fun _ hk => hk.2) (.slice Ao26 t230.length co26)) (fun _ h_ => h_.1))) hb); replace BK226 := Aside0.mk (blk_below (g := gb226) (o := .cells #[.int .i64 a0_0, .int .i64 a0_1, .slice A0_2 l0_2.length c0_2] 24 (0, 0)) (blkB BK226.out) hb); replace BK227 := Aside0.mk (blk_below (g := gb227) (o := .cells #[.int .i64 0, .int .i64 0, .slice none 0 0] 24 (0, 0)) (blkB BK227.out) hb); replace BK234 := Aside0.mk (blk_below (g := gb234) (o := .cells #[.int .i64 t228, .int .i64 t229, .slice Ao26 t230.length co26] 69 (0, 0)) (blkB BK234.out) hb); replace HB := Aside0.mk (below_step (belA HB.out) hb); (try clear hb); (try clear hb2); (try clear hk); (try clear hi); (try clear ho0)) | ((with_reducible refine gate_dst (N := 11) rfl ?_); refine boxE (N := 11) (cs := #[.int .i64 0, .int .i64 0, .slice none 0 0]) (t := 24) ?_; intro gb242 hg w29 hbox hb; have BK242 := Aside0.mk (hbox); have GW242 := Aside0.mk ((szA hg HB.out : w.heap.size ≤ gb242)); have GE242 := Aside0.mk ((szA hg HB.out : w.heap.size ≤ gb242)); have NB226_242 := Aside0.mk ((neL hg BK226.out : gb226 ≠ gb242)); have NB242_226 := Aside0.mk ((neG hg BK226.out : gb242 ≠ gb226)); have NB227_242 := Aside0.mk ((neL hg BK227.out : gb227 ≠ gb242)); have NB242_227 := Aside0.mk ((neG hg BK227.out : gb242 ≠ gb227)); have NB234_242 := Aside0.mk ((neL hg BK234.out : gb234 ≠ gb242)); have NB242_234 := Aside0.mk ((neG hg BK234.out : gb242 ≠ gb234)); replace HO232 := Aside0.mk (Kd.R_below (rowA HO232.out) hb); replace HO241 := Aside0.mk (Kd.R_below (rowA HO241.out) hb); replace BK226 := Aside0.mk (blk_below (g := gb226) (o := .cells #[.int .i64 a0_0, .int .i64 a0_1, .slice A0_2 l0_2.length c0_2] 24 (0, 0)) (blkA BK226.out) hb); replace BK227 := Aside0.mk (blk_below (g := gb227) (o := .cells #[.int .i64 0, .int .i64 0, .slice none 0 0] 24 (0, 0)) (blkA BK227.out) hb); replace BK234 := Aside0.mk (blk_below (g := gb234) (o := .cells #[.int .i64 t228, .int .i64 t229, .slice Ao26 t230.length co26] 69 (0, 0)) (blkA BK234.out) hb); replace HB := Aside0.mk (below_step (belA HB.out) hb); clear hb hbox hg; have hnb30 := NB242_226.out; have hnc30 := NB226_242.out; have hnb31 := NB242_227.out; have hnc31 := NB227_242.out; have hnb32 := NB242_234.out; have hnc32 := NB234_242.out; obtain ⟨hcz33_0, hcz33_1, hcz33_2, hfz33_0, hfz33_1, hfz33_2⟩ := bk3 BK242.out; obtain ⟨Ao34, co34, eo34⟩ := Kd.R_slice HO241.out; subst eo34; obtain ⟨hcz35_0, hcz35_1, hcz35_2, hfz35_0, hfz35_1, hfz35_2⟩ := bk3 BK234.out) | ((with_reducible refine gate_callee (f := 46) rfl ?_); refine goesL_ (some 40) rfl rfl Try.func46 (by kernel_rfl) rfl #[.agg #[.int .i64 t228, .int .i64 t229, .slice Ao26 t230.length co26]] rfl argA ?_; (with_reducible refine (qrlayout_frame_format.calls k t228 t229 _ _ t230 t243 t246 _ ?side1 ?side2 A9.out).mono ?_); (case side1 => refine (Kd.R_reads' (e := 3) (base := w.heap.size) (ok := fun k_ => True) (n := t230.length) (c := co26) ?_).2.2; exact (by (with_reducible repeat (first | apply Kd.R_alloc | apply Kd.R_drewN | apply Kd.R_drew)); exact (Kd.R_mono (Kd.R_far (p := ⟨gb242, 2, none⟩) (Kd.R_far (p := ⟨gb242, 1, none⟩) (Kd.R_far (p := ⟨gb242, 0, none⟩) (Kd.R_types HO232.out BK242.out (by decide)) (fun _ hk => hk.2) (.int .i64 t237)) (fun _ hk => hk.2) (.int .i64 t238)) (fun _ hk => hk.2) (.slice Ao34 t239.length co34)) (fun _ h_ => h_.1)))); (case side2 => exact (Kd.R_reads' HO232.out).2.1); rintro e w36 ⟨v244, v247, rfl, ho0, ho1, hb⟩; refine ⟨_, rfl, ?_⟩; have HO245 := Aside0.mk (Kd.R_lower ho0 (below_size (belA HB.out))); have HO248 := Aside0.mk (Kd.R_lower ho1 (below_size (belA HB.out))); replace HO232 := Aside0.mk (Kd.R_below (by (with_reducible repeat (first | apply Kd.R_alloc | apply Kd.R_drewN | apply Kd.R_drew)); exact (Kd.R_mono (Kd.R_far (p := ⟨gb242, 2, none⟩) (Kd.R_far (p := ⟨gb242, 1, none⟩) (Kd.R_far (p := ⟨gb242, 0, none⟩) (Kd.R_types HO232.out BK242.out (by decide)) (fun _ hk => hk.2) (.int .i64 t237)) (fun _ hk => hk.2) (.int .i64 t238)) (fun _ hk => hk.2) (.slice Ao34 t239.length co34)) (fun _ h_ => h_.1))) hb); replace HO241 := Aside0.mk (Kd.R_below (by (with_reducible repeat (first | apply Kd.R_alloc | apply Kd.R_drewN | apply Kd.R_drew)); exact (Kd.R_mono (Kd.R_far (p := ⟨gb242, 2, none⟩) (Kd.R_far (p := ⟨gb242, 1, none⟩) (Kd.R_far (p := ⟨gb242, 0, none⟩) (Kd.R_types HO241.out BK242.out (by decide)) (fun _ hk => hk.2) (.int .i64 t237)) (fun _ hk => hk.2) (.int .i64 t238)) (fun _ hk => hk.2) (.slice Ao34 t239.length co34)) (fun _ h_ => h_.1))) hb); replace BK226 := Aside0.mk (blk_below (g := gb226) (o := .cells #[.int .i64 a0_0, .int .i64 a0_1, .slice A0_2 l0_2.length c0_2] 24 (0, 0)) (blkB BK226.out) hb); replace BK227 := Aside0.mk (blk_below (g := gb227) (o := .cells #[.int .i64 0, .int .i64 0, .slice none 0 0] 24 (0, 0)) (blkB BK227.out) hb); replace BK234 := Aside0.mk (blk_below (g := gb234) (o := .cells #[.int .i64 t228, .int .i64 t229, .slice Ao26 t230.length co26] 69 (0, 0)) (blkB BK234.out) hb); replace BK242 := Aside0.mk (blk_below (g := gb242) (o := .cells #[.int .i64 t237, .int .i64 t238, .slice Ao34 t239.length co34] 24 (0, 0)) (blkB BK242.out) hb); replace HB := Aside0.mk (below_step (belA HB.out) hb); (try clear hb); (try clear hb2); (try clear hk); (try clear hi); (try clear ho0); (try clear ho1); obtain ⟨hcz37_0, hcz37_1, hcz37_2, hfz37_0, hfz37_1, hfz37_2⟩ := bk3 BK242.out; obtain ⟨Ao38, co38, eo38⟩ := Kd.R_slice HO245.out; subst eo38) | ((with_reducible refine gate_callee (f := 47) rfl ?_); refine goesL_ (some 47) rfl rfl Try.func47 (by kernel_rfl) rfl #[.agg #[.int .i64 t237, .int .i64 t238, .slice Ao34 t239.length co34], .slice Ao38 t243.length co38, .int .i64 t235] rfl argA ?_; (with_reducible refine (qrlayout_write.calls k t237 t238 (fun k_ => some k_ = (.slice Ao34 t239.length co34 : Value).ownBlock) (.slice Ao34 t239.length co34) t239 _ _ t243 t235 t249 w _ ?side1 ?side2 ?side3 ?side4 A10.out).mono ?_); (case side1 => exact belA HB.out); (case side2 => exact Kd.R_tight rfl HO241.out); (case side3 => exact Kd.C_kept_own ((Kd.R_apart' HO245.out (Kd.R_typed HO241.out) (by decide))) (fun k_ hk_ hs_ => (hk_.2) hs_)); (case side4 => exact (Kd.R_reads' HO245.out).2.1); rintro e w39 ⟨rfl, hy0, hb, hkp⟩; refine ⟨_, rfl, ?_⟩; replace BK226 := Aside0.mk (blk_kept (blkA BK226.out) hkp (fun hs_ => (fun e_ => (Kd.R_ne HO241.out BK226.out (by decide)) e_) hs_)); replace BK227 := Aside0.mk (blk_kept (blkA BK227.out) hkp (fun hs_ => (fun e_ => (Kd.R_ne HO241.out BK227.out (by decide)) e_) hs_)); replace HO232 := Aside0.mk (Kd.R_mono (ok' := fun k_ => True) (Kd.R_keptB ((Kd.R_apart' HO232.out (Kd.R_typed HO241.out) (by decide))) hkp (fun k_ hk_ hs_ => (hk_.2) hs_)) (fun k_ hk_ => trivial)); replace BK234 := Aside0.mk (blk_kept (blkA BK234.out) hkp (fun hs_ => (fun e_ => (Kd.R_ne HO241.out BK234.out (by decide)) e_) hs_)); replace BK242 := Aside0.mk (blk_kept (blkA BK242.out) hkp (fun hs_ => (fun e_ => (Kd.R_ne HO241.out BK242.out (by decide)) e_) hs_)); replace HO245 := Aside0.mk (Kd.R_mono (ok' := fun k_ => some k_ ≠ (v247 : Value).ownBlock) (Kd.R_keptB ((Kd.R_apart' HO245.out (Kd.R_typed HO241.out) (by decide))) hkp (fun k_ hk_ hs_ => (hk_.2) hs_)) (fun k_ hk_ => hk_.1.1)); replace HO248 := Aside0.mk (Kd.R_mono (ok' := fun k_ => some k_ ≠ (.slice Ao38 t243.length co38 : Value).ownBlock) (Kd.R_keptB ((Kd.R_apart' HO248.out (Kd.R_typed HO241.out) (by decide))) hkp (fun k_ hk_ hs_ => (hk_.2) hs_)) (fun k_ hk_ => hk_.1.1)); replace HO241 := Aside0.mk (Kd.R_reok rfl hy0 (fun k_ e_ => HO241.out.1 k_ e_)); replace HB := Aside0.mk (hb); (try clear hb); (try clear hkp); (try clear hy0); obtain ⟨hcz40_0, hcz40_1, hcz40_2, hfz40_0, hfz40_1, hfz40_2⟩ := bk3 BK242.out; obtain ⟨Ao41, co41, eo41⟩ := Kd.R_slice HO248.out; subst eo41) | ((with_reducible refine gate_callee (f := 47) rfl ?_); refine goesL_ (some 47) rfl rfl Try.func47 (by kernel_rfl) rfl #[.agg #[.int .i64 t237, .int .i64 t238, .slice Ao34 t239.length co34], .slice Ao41 t246.length co41, .int .i64 t235] rfl argA ?_; (with_reducible refine (qrlayout_write.calls k t237 t238 (fun k_ => some k_ = (.slice Ao34 t239.length co34 : Value).ownBlock) (.slice Ao34 t239.length co34) t249 _ _ t246 t235 t250 w _ ?side1 ?side2 ?side3 ?side4 A11.out).mono ?_); (case side1 => exact belA HB.out); (case side2 => exact Kd.R_tight rfl HO241.out); (case side3 => exact Kd.C_kept_own ((Kd.R_apart' HO248.out (Kd.R_typed HO241.out) (by decide))) (fun k_ hk_ hs_ => (hk_.2) hs_)); (case side4 => exact (Kd.R_reads' HO248.out).2.1); rintro e w42 ⟨rfl, hy0, hb, hkp⟩; refine ⟨_, rfl, ?_⟩; replace BK226 := Aside0.mk (blk_kept (blkA BK226.out) hkp (fun hs_ => (fun e_ => (Kd.R_ne HO241.out BK226.out (by decide)) e_) hs_)); replace BK227 := Aside0.mk (blk_kept (blkA BK227.out) hkp (fun hs_ => (fun e_ => (Kd.R_ne HO241.out BK227.out (by decide)) e_) hs_)); replace HO232 := Aside0.mk (Kd.R_mono (ok' := fun k_ => True) (Kd.R_keptB ((Kd.R_apart' HO232.out (Kd.R_typed HO241.out) (by decide))) hkp (fun k_ hk_ hs_ => (hk_.2) hs_)) (fun k_ hk_ => trivial)); replace BK234 := Aside0.mk (blk_kept (blkA BK234.out) hkp (fun hs_ => (fun e_ => (Kd.R_ne HO241.out BK234.out (by decide)) e_) hs_)); replace BK242 := Aside0.mk (blk_kept (blkA BK242.out) hkp (fun hs_ => (fun e_ => (Kd.R_ne HO241.out BK242.out (by decide)) e_) hs_)); replace HO245 := Aside0.mk (Kd.R_mono (ok' := fun k_ => some k_ ≠ (.slice Ao41 t246.length co41 : Value).ownBlock) (Kd.R_keptB ((Kd.R_apart' HO245.out (Kd.R_typed HO241.out) (by decide))) hkp (fun k_ hk_ hs_ => (hk_.2) hs_)) (fun k_ hk_ => hk_.1.1)); replace HO248 := Aside0.mk (Kd.R_mono (ok' := fun k_ => some k_ ≠ (.slice Ao38 t243.length co38 : Value).ownBlock) (Kd.R_keptB ((Kd.R_apart' HO248.out (Kd.R_typed HO241.out) (by decide))) hkp (fun k_ hk_ hs_ => (hk_.2) hs_)) (fun k_ hk_ => hk_.1.1)); replace HO241 := Aside0.mk (Kd.R_reok rfl hy0 (fun k_ e_ => HO241.out.1 k_ e_)); replace HB := Aside0.mk (hb); (try clear hb); (try clear hkp); (try clear hy0); obtain ⟨hcz43_0, hcz43_1, hcz43_2, hfz43_0, hfz43_1, hfz43_2⟩ := bk3 BK234.out) | ((with_reducible refine gate_callee (f := 48) rfl ?_); refine goesL_ (some 52) rfl rfl Try.func48 (by kernel_rfl) rfl #[.int .i64 t228] rfl argA ?_; (with_reducible refine (bch_Version.calls k t228 t251 t252 _ A12.out).mono ?_); rintro e w' ⟨rfl, ⟨nd, rfl⟩⟩; refine ⟨_, rfl, ?_⟩; (try (rw [drewN_self w42]; generalize hq_ : World.drewN w42 _ = w42; have n0_ : Aside0 (Kd.R (Kd.int .i64) 3 w42 w.heap.size (fun _ => True) (.slice Ao26 t230.length co26) t230) := ⟨by rw [← hq_]; exact (rowA HO232.out)⟩; have n1_ : Aside0 (Kd.R Kd.bool 4 w42 w.heap.size (fun _ => True) (.slice Ao34 t239.length co34) t250) := ⟨by rw [← hq_]; exact (rowA HO241.out)⟩; have n2_ : Aside0 (Kd.R k45 45 w42 w.heap.size (fun k_ => some k_ ≠ (.slice Ao41 t246.length co41 : Value).ownBlock) (.slice Ao38 t243.length co38) t243) := ⟨by rw [← hq_]; exact (rowA HO245.out)⟩; have n3_ : Aside0 (Kd.R k45 45 w42 w.heap.size (fun k_ => some k_ ≠ (.slice Ao38 t243.length co38 : Value).ownBlock) (.slice Ao41 t246.length co41) t246) := ⟨by rw [← hq_]; exact (rowA HO248.out)⟩; have n4_ : Aside0 (w42.heap[gb226]? = some (.cells #[.int .i64 a0_0, .int .i64 a0_1, .slice A0_2 l0_2.length c0_2] 24 (0, 0))) := ⟨by rw [← hq_]; exact (blkA BK226.out)⟩; have n5_ : Aside0 (w42.heap[gb227]? = some (.cells #[.int .i64 0, .int .i64 0, .slice none 0 0] 24 (0, 0))) := ⟨by rw [← hq_]; exact (blkA BK227.out)⟩; have n6_ : Aside0 (w42.heap[gb234]? = some (.cells #[.int .i64 t228, .int .i64 t229, .slice Ao26 t230.length co26] 69 (0, 0))) := ⟨by rw [← hq_]; exact (blkA BK234.out)⟩; have n7_ : Aside0 (w42.heap[gb242]? = some (.cells #[.int .i64 t237, .int .i64 t238, .slice Ao34 t239.length co34] 24 (0, 0))) := ⟨by rw [← hq_]; exact (blkA BK242.out)⟩; have n8_ : Aside0 (Below w.heap.size w w42) := ⟨by rw [← hq_]; exact (belA HB.out)⟩; clear HO232 HO241 HO245 HO248 BK226 BK227 BK234 BK242 HB hq_; have HO232 := n0_; have HO241 := n1_; have HO245 := n2_; have HO248 := n3_; have BK226 := n4_; have BK227 := n5_; have BK234 := n6_; have BK242 := n7_; have HB := n8_; clear n0_ n1_ n2_ n3_ n4_ n5_ n6_ n7_ n8_)); have hcz44_0 : w42.cell? ⟨gb234, 0, none⟩ = some (.int .i64 t228) := (blk_cell BK234.out 0).trans rfl; have hcz44_1 : w42.cell? ⟨gb234, 1, none⟩ = some (.int .i64 t229) := (blk_cell BK234.out 1).trans rfl; have hcz44_2 : w42.cell? ⟨gb234, 2, none⟩ = some (.slice Ao26 t230.length co26) := (blk_cell BK234.out 2).trans rfl) | ((with_reducible refine gate_callee (f := 49) rfl ?_); refine goesL_ (some 58) rfl rfl Try.func49 (by kernel_rfl) rfl #[.agg #[.int .i64 t228, .int .i64 t229, .slice Ao26 t230.length co26]] rfl argA ?_; (with_reducible refine (qrlayout_frame_info.calls k t228 t229 _ _ t230 t253 t256 _ ?side1 ?side2 A14.out).mono ?_); (case side1 => exact lowA (Kd.R_reads' HO232.out).2.2); (case side2 => exact (Kd.R_reads' HO232.out).2.1); rintro e w44 ⟨v254, v257, rfl, ho0, ho1, hb⟩; refine ⟨_, rfl, ?_⟩; have HO255 := Aside0.mk (Kd.R_lower (Kd.R_new' (Kd.R_new' ho0 (Kd.R_lt (rowA HO245.out))) (Kd.R_lt (rowA HO248.out))) (below_size (belA HB.out))); have HO258 := Aside0.mk (Kd.R_lower (Kd.R_new' (Kd.R_new' ho1 (Kd.R_lt (rowA HO245.out))) (Kd.R_lt (rowA HO248.out))) (below_size (belA HB.out))); replace HO232 := Aside0.mk (Kd.R_below (rowA HO232.out) hb); replace HO241 := Aside0.mk (Kd.R_below (rowA HO241.out) hb); replace HO245 := Aside0.mk (Kd.R_mono (Kd.R_told (Kd.R_told (Kd.R_old (rowA HO245.out) hb) (Kd.R_base ho0)) (Kd.R_base ho1)) (fun _ h_ => h_.1)); replace HO248 := Aside0.mk (Kd.R_mono (Kd.R_told (Kd.R_told (Kd.R_old (rowA HO248.out) hb) (Kd.R_base ho0)) (Kd.R_base ho1)) (fun _ h_ => h_.1)); replace BK226 := Aside0.mk (blk_below (g := gb226) (o := .cells #[.int .i64 a0_0, .int .i64 a0_1, .slice A0_2 l0_2.length c0_2] 24 (0, 0)) (blkA BK226.out) hb); replace BK227 := Aside0.mk (blk_below (g := gb227) (o := .cells #[.int .i64 0, .int .i64 0, .slice none 0 0] 24 (0, 0)) (blkA BK227.out) hb); replace BK234 := Aside0.mk (blk_below (g := gb234) (o := .cells #[.int .i64 t228, .int .i64 t229, .slice Ao26 t230.length co26] 69 (0, 0)) (blkA BK234.out) hb); replace BK242 := Aside0.mk (blk_below (g := gb242) (o := .cells #[.int .i64 t237, .int .i64 t238, .slice Ao34 t239.length co34] 24 (0, 0)) (blkA BK242.out) hb); replace HB := Aside0.mk (below_step (belA HB.out) hb); (try clear hb); (try clear hb2); (try clear hk); (try clear hi); (try clear ho0); (try clear ho1); obtain ⟨hcz45_0, hcz45_1, hcz45_2, hfz45_0, hfz45_1, hfz45_2⟩ := bk3 BK242.out; obtain ⟨Ao46, co46, eo46⟩ := Kd.R_slice HO255.out; subst eo46) | ((with_reducible refine gate_callee (f := 47) rfl ?_); refine goesL_ (some 65) rfl rfl Try.func47 (by kernel_rfl) rfl #[.agg #[.int .i64 t237, .int .i64 t238, .slice Ao34 t239.length co34], .slice Ao46 t253.length co46, .int .i64 t251] rfl argA ?_; (with_reducible refine (qrlayout_write.calls k t237 t238 (fun k_ => some k_ = (.slice Ao34 t239.length co34 : Value).ownBlock) (.slice Ao34 t239.length co34) t250 _ _ t253 t251 t259 w _ ?side1 ?side2 ?side3 ?side4 A15.out).mono ?_); (case side1 => exact belA HB.out); (case side2 => exact Kd.R_tight rfl HO241.out); (case side3 => exact Kd.C_kept_own ((Kd.R_apart' HO255.out (Kd.R_typed HO241.out) (by decide))) (fun k_ hk_ hs_ => (hk_.2) hs_)); (case side4 => exact (Kd.R_reads' HO255.out).2.1); rintro e w47 ⟨rfl, hy0, hb, hkp⟩; refine ⟨_, rfl, ?_⟩; replace BK226 := Aside0.mk (blk_kept (blkA BK226.out) hkp (fun hs_ => (fun e_ => (Kd.R_ne HO241.out BK226.out (by decide)) e_) hs_)); replace BK227 := Aside0.mk (blk_kept (blkA BK227.out) hkp (fun hs_ => (fun e_ => (Kd.R_ne HO241.out BK227.out (by decide)) e_) hs_)); replace HO232 := Aside0.mk (Kd.R_mono (ok' := fun k_ => True) (Kd.R_keptB ((Kd.R_apart' HO232.out (Kd.R_typed HO241.out) (by decide))) hkp (fun k_ hk_ hs_ => (hk_.2) hs_)) (fun k_ hk_ => trivial)); replace BK234 := Aside0.mk (blk_kept (blkA BK234.out) hkp (fun hs_ => (fun e_ => (Kd.R_ne HO241.out BK234.out (by decide)) e_) hs_)); replace BK242 := Aside0.mk (blk_kept (blkA BK242.out) hkp (fun hs_ => (fun e_ => (Kd.R_ne HO241.out BK242.out (by decide)) e_) hs_)); replace HO245 := Aside0.mk (Kd.R_mono (ok' := fun k_ => some k_ ≠ (.slice Ao41 t246.length co41 : Value).ownBlock ∧ some k_ ≠ (.slice Ao46 t253.length co46 : Value).ownBlock ∧ some k_ ≠ (v257 : Value).ownBlock) (Kd.R_keptB ((Kd.R_apart' HO245.out (Kd.R_typed HO241.out) (by decide))) hkp (fun k_ hk_ hs_ => (hk_.2) hs_)) (fun k_ hk_ => ⟨hk_.1.1.1.1, hk_.1.1.1.2, hk_.1.1.2⟩)); replace HO248 := Aside0.mk (Kd.R_mono (ok' := fun k_ => some k_ ≠ (.slice Ao38 t243.length co38 : Value).ownBlock ∧ some k_ ≠ (.slice Ao46 t253.length co46 : Value).ownBlock ∧ some k_ ≠ (v257 : Value).ownBlock) (Kd.R_keptB ((Kd.R_apart' HO248.out (Kd.R_typed HO241.out) (by decide))) hkp (fun k_ hk_ hs_ => (hk_.2) hs_)) (fun k_ hk_ => ⟨hk_.1.1.1.1, hk_.1.1.1.2, hk_.1.1.2⟩)); replace HO255 := Aside0.mk (Kd.R_mono (ok' := fun k_ => some k_ ≠ (.slice Ao38 t243.length co38 : Value).ownBlock ∧ some k_ ≠ (.slice Ao41 t246.length co41 : Value).ownBlock ∧ some k_ ≠ (v257 : Value).ownBlock) (Kd.R_keptB ((Kd.R_apart' HO255.out (Kd.R_typed HO241.out) (by decide))) hkp (fun k_ hk_ hs_ => (hk_.2) hs_)) (fun k_ hk_ => ⟨hk_.1.1.1.2, hk_.1.1.2, hk_.1.1.1.1⟩)); replace HO258 := Aside0.mk (Kd.R_mono (ok' := fun k_ => some k_ ≠ (.slice Ao38 t243.length co38 : Value).ownBlock ∧ some k_ ≠ (.slice Ao41 t246.length co41 : Value).ownBlock ∧ some k_ ≠ (.slice Ao46 t253.length co46 : Value).ownBlock) (Kd.R_keptB ((Kd.R_apart' HO258.out (Kd.R_typed HO241.out) (by decide))) hkp (fun k_ hk_ hs_ => (hk_.2) hs_)) (fun k_ hk_ => ⟨hk_.1.1.1.2, hk_.1.1.2, hk_.1.1.1.1⟩)); replace HO241 := Aside0.mk (Kd.R_reok rfl hy0 (fun k_ e_ => HO241.out.1 k_ e_)); replace HB := Aside0.mk (hb); (try clear hb); (try clear hkp); (try clear hy0); obtain ⟨hcz48_0, hcz48_1, hcz48_2, hfz48_0, hfz48_1, hfz48_2⟩ := bk3 BK242.out; obtain ⟨Ao49, co49, eo49⟩ := Kd.R_slice HO258.out; subst eo49) | ((with_reducible refine gate_callee (f := 47) rfl ?_); refine goesL_ (some 65) rfl rfl Try.func47 (by kernel_rfl) rfl #[.agg #[.int .i64 t237, .int .i64 t238, .slice Ao34 t239.length co34], .slice Ao49 t256.length co49, .int .i64 t251] rfl argA ?_; (with_reducible refine (qrlayout_write.calls k t237 t238 (fun k_ => some k_ = (.slice Ao34 t239.length co34 : Value).ownBlock) (.slice Ao34 t239.length co34) t259 _ _ t256 t251 t260 w _ ?side1 ?side2 ?side3 ?side4 A16.out).mono ?_); (case side1 => exact belA HB.out); (case side2 => exact Kd.R_tight rfl HO241.out); (case side3 => exact Kd.C_kept_own ((Kd.R_apart' HO258.out (Kd.R_typed HO241.out) (by decide))) (fun k_ hk_ hs_ => (hk_.2) hs_)); (case side4 => exact (Kd.R_reads' HO258.out).2.1); rintro e w50 ⟨rfl, hy0, hb, hkp⟩; refine ⟨_, rfl, ?_⟩; replace BK226 := Aside0.mk (blk_kept (blkA BK226.out) hkp (fun hs_ => (fun e_ => (Kd.R_ne HO241.out BK226.out (by decide)) e_) hs_)); replace BK227 := Aside0.mk (blk_kept (blkA BK227.out) hkp (fun hs_ => (fun e_ => (Kd.R_ne HO241.out BK227.out (by decide)) e_) hs_)); replace HO232 := Aside0.mk (Kd.R_mono (ok' := fun k_ => True) (Kd.R_keptB ((Kd.R_apart' HO232.out (Kd.R_typed HO241.out) (by decide))) hkp (fun k_ hk_ hs_ => (hk_.2) hs_)) (fun k_ hk_ => trivial)); replace BK234 := Aside0.mk (blk_kept (blkA BK234.out) hkp (fun hs_ => (fun e_ => (Kd.R_ne HO241.out BK234.out (by decide)) e_) hs_)); replace BK242 := Aside0.mk (blk_kept (blkA BK242.out) hkp (fun hs_ => (fun e_ => (Kd.R_ne HO241.out BK242.out (by decide)) e_) hs_)); replace HO245 := Aside0.mk (Kd.R_mono (ok' := fun k_ => some k_ ≠ (.slice Ao41 t246.length co41 : Value).ownBlock ∧ some k_ ≠ (.slice Ao46 t253.length co46 : Value).ownBlock ∧ some k_ ≠ (.slice Ao49 t256.length co49 : Value).ownBlock) (Kd.R_keptB ((Kd.R_apart' HO245.out (Kd.R_typed HO241.out) (by decide))) hkp (fun k_ hk_ hs_ => (hk_.2) hs_)) (fun k_ hk_ => ⟨hk_.1.1.1, hk_.1.1.2.1, hk_.1.1.2.2⟩)); replace HO248 := Aside0.mk (Kd.R_mono (ok' := fun k_ => some k_ ≠ (.slice Ao38 t243.length co38 : Value).ownBlock ∧ some k_ ≠ (.slice Ao46 t253.length co46 : Value).ownBlock ∧ some k_ ≠ (.slice Ao49 t256.length co49 : Value).ownBlock) (Kd.R_keptB ((Kd.R_apart' HO248.out (Kd.R_typed HO241.out) (by decide))) hkp (fun k_ hk_ hs_ => (hk_.2) hs_)) (fun k_ hk_ => ⟨hk_.1.1.1, hk_.1.1.2.1, hk_.1.1.2.2⟩)); replace HO255 := Aside0.mk (Kd.R_mono (ok' := fun k_ => some k_ ≠ (.slice Ao38 t243.length co38 : Value).ownBlock ∧ some k_ ≠ (.slice Ao41 t246.length co41 : Value).ownBlock ∧ some k_ ≠ (.slice Ao49 t256.length co49 : Value).ownBlock) (Kd.R_keptB ((Kd.R_apart' HO255.out (Kd.R_typed HO241.out) (by decide))) hkp (fun k_ hk_ hs_ => (hk_.2) hs_)) (fun k_ hk_ => ⟨hk_.1.1.1, hk_.1.1.2.1, hk_.1.1.2.2⟩)); replace HO258 := Aside0.mk (Kd.R_mono (ok' := fun k_ => some k_ ≠ (.slice Ao38 t243.length co38 : Value).ownBlock ∧ some k_ ≠ (.slice Ao41 t246.length co41 : Value).ownBlock ∧ some k_ ≠ (.slice Ao46 t253.length co46 : Value).ownBlock) (Kd.R_keptB ((Kd.R_apart' HO258.out (Kd.R_typed HO241.out) (by decide))) hkp (fun k_ hk_ hs_ => (hk_.2) hs_)) (fun k_ hk_ => ⟨hk_.1.1.1, hk_.1.1.2.1, hk_.1.1.2.2⟩)); replace HO241 := Aside0.mk (Kd.R_reok rfl hy0 (fun k_ e_ => HO241.out.1 k_ e_)); replace HB := Aside0.mk (hb); (try clear hb); (try clear hkp); (try clear hy0); obtain ⟨hcz51_0, hcz51_1, hcz51_2, hfz51_0, hfz51_1, hfz51_2⟩ := bk3 BK242.out; obtain ⟨hcz52_0, hcz52_1, hcz52_2, hfz52_0, hfz52_1, hfz52_2⟩ := bk3 BK227.out)))))
    refine bodyPost_ret (results_ct rfl _ _ gb227 24 #[.int .i64 t237, .int .i64 t238, .slice Ao34 t239.length co34] (0, 0) _ rfl (blkB BK227.out) Try.underlying24 rfl (by kernel_rfl)) rfl ?_
    exact ⟨_, errA, by (with_reducible repeat (first | apply Kd.R_alloc | apply Kd.R_drewN | apply Kd.R_drew)); exact Kd.R_mono (Kd.R_far (p := ⟨gb227, 2, none⟩) (Kd.R_far (p := ⟨gb227, 1, none⟩) (Kd.R_far (p := ⟨gb227, 0, none⟩) (Kd.R_types HO241.out BK227.out (by decide)) (fun _ hk => hk.2) (.int .i64 t237)) (fun _ hk => hk.2) (.int .i64 t238)) (fun _ hk => hk.2) (.slice Ao34 t239.length co34)) (fun _ hk => trivial), belA HB.out⟩
   ·rw [if_neg c13] at H
    have c13b0 : (t252 == 0) = false := beq_eq_false_iff_ne.mpr c13
    have c13b1 : (t252 != 0) = true := bne_iff_ne.mpr c13
    simp only [Option.some.injEq, Prod.mk.injEq] at H
    obtain ⟨rfl, rfl, rfl, rfl⟩ := H
    go_enter Try.func17, Try.ntmps17
    iterate 4 ((first | (with_reducible refine wp_loop_rounds 3 ?_) | skip); (first | rw [rounds_succ] | skip); (try (go_wp2_with (first | ((with_reducible refine gate_dst (N := 3) rfl ?_); refine boxE (N := 3) (cs := #[.int .i64 a0_0, .int .i64 a0_1, .slice A0_2 l0_2.length c0_2]) (t := 24) ?_; intro gb226 hg w53 hbox hb; have BK226 := Aside0.mk (hbox); have GW226 := Aside0.mk ((szA hg HB.out : w.heap.size ≤ gb226)); have GE226 := Aside0.mk ((szA hg HB.out : w.heap.size ≤ gb226)); replace HB := Aside0.mk (below_step (belA HB.out) hb); clear hb hbox hg) | ((with_reducible refine gate_dst (N := 6) rfl ?_); refine boxE (N := 6) (cs := #[.int .i64 0, .int .i64 0, .slice none 0 0]) (t := 24) ?_; intro gb227 hg w54 hbox hb; have BK227 := Aside0.mk (hbox); have GW227 := Aside0.mk ((szA hg HB.out : w.heap.size ≤ gb227)); have GE227 := Aside0.mk ((szA hg HB.out : w.heap.size ≤ gb227)); have NB226_227 := Aside0.mk ((neL hg BK226.out : gb226 ≠ gb227)); have NB227_226 := Aside0.mk ((neG hg BK226.out : gb227 ≠ gb226)); replace BK226 := Aside0.mk (blk_below (g := gb226) (o := .cells #[.int .i64 a0_0, .int .i64 a0_1, .slice A0_2 l0_2.length c0_2] 24 (0, 0)) (blkA BK226.out) hb); replace HB := Aside0.mk (below_step (belA HB.out) hb); clear hb hbox hg; have hnb55 := NB226_227.out; have hnc55 := NB227_226.out; obtain ⟨hcz56_0, hcz56_1, hcz56_2, hfz56_0, hfz56_1, hfz56_2⟩ := bk3 BK226.out) | ((with_reducible refine gate_callee (f := 40) rfl ?_); refine goesL_ (some 20) rfl rfl Try.func40 (by kernel_rfl) rfl #[.agg #[.int .i64 a0_0, .int .i64 a0_1, .slice A0_2 l0_2.length c0_2]] rfl argA ?_; (with_reducible refine (qrlayout_sized.calls k a0_0 a0_1 _ _ l0_2 t228 t229 t230 t233 _ ?side1 ?side2 A4.out).mono ?_); (case side1 => exact lowA (Kd.C_below HR0_2.out HB.out)); (case side2 => exact HC0_2.out); rintro e w57 ⟨v231, rfl, ho0, hb⟩; refine ⟨_, rfl, ?_⟩; have HO232 := Aside0.mk (Kd.R_lower ho0 (below_size (belA HB.out))); replace BK226 := Aside0.mk (blk_below (g := gb226) (o := .cells #[.int .i64 a0_0, .int .i64 a0_1, .slice A0_2 l0_2.length c0_2] 24 (0, 0)) (blkA BK226.out) hb); replace BK227 := Aside0.mk (blk_below (g := gb227) (o := .cells #[.int .i64 0, .int .i64 0, .slice none 0 0] 24 (0, 0)) (blkA BK227.out) hb); replace HB := Aside0.mk (below_step (belA HB.out) hb); (try clear hb); (try clear hb2); (try clear hk); (try clear hi); (try clear ho0)) | ((with_reducible refine gate_dst (N := 8) rfl ?_); refine boxE (N := 8) (cs := #[.int .i64 0, .int .i64 0, .slice none 0 0]) (t := 69) ?_; intro gb234 hg w58 hbox hb; have BK234 := Aside0.mk (hbox); have GW234 := Aside0.mk ((szA hg HB.out : w.heap.size ≤ gb234)); have GE234 := Aside0.mk ((szA hg HB.out : w.heap.size ≤ gb234)); have NB226_234 := Aside0.mk ((neL hg BK226.out : gb226 ≠ gb234)); have NB234_226 := Aside0.mk ((neG hg BK226.out : gb234 ≠ gb226)); have NB227_234 := Aside0.mk ((neL hg BK227.out : gb227 ≠ gb234)); have NB234_227 := Aside0.mk ((neG hg BK227.out : gb234 ≠ gb227)); replace HO232 := Aside0.mk (Kd.R_below (rowA HO232.out) hb); replace BK226 := Aside0.mk (blk_below (g := gb226) (o := .cells #[.int .i64 a0_0, .int .i64 a0_1, .slice A0_2 l0_2.length c0_2] 24 (0, 0)) (blkA BK226.out) hb); replace BK227 := Aside0.mk (blk_below (g := gb227) (o := .cells #[.int .i64 0, .int .i64 0, .slice none 0 0] 24 (0, 0)) (blkA BK227.out) hb); replace HB := Aside0.mk (below_step (belA HB.out) hb); clear hb hbox hg; have hnb59 := NB234_226.out; have hnc59 := NB226_234.out; have hnb60 := NB234_227.out; have hnc60 := NB227_234.out; obtain ⟨hcz61_0, hcz61_1, hcz61_2, hfz61_0, hfz61_1, hfz61_2⟩ := bk3 BK234.out; obtain ⟨Ao62, co62, eo62⟩ := Kd.R_slice HO232.out; subst eo62) | ((with_reducible refine gate_callee (f := 44) rfl ?_); refine goesL_ (some 30) rfl rfl Try.func44 (by kernel_rfl) rfl #[.int .i64 a1, .int .i64 a2] rfl argA ?_; (with_reducible refine (bch_Format.calls k a1 a2 t235 t236 _ A6.out).mono ?_); rintro e w' ⟨rfl, ⟨nd, rfl⟩⟩; refine ⟨_, rfl, ?_⟩; obtain ⟨hcz63_0, hcz63_1, hcz63_2, hfz63_0, hfz63_1, hfz63_2⟩ := bk3 BK226.out) | ((with_reducible refine gate_callee (f := 45) rfl ?_); refine goesL_ (some 38) rfl rfl Try.func45 (by kernel_rfl) rfl #[.agg #[.int .i64 a0_0, .int .i64 a0_1, .slice A0_2 l0_2.length c0_2]] rfl argA ?_; (with_reducible refine (qrlayout_clone.calls a0_0 a0_1 _ _ l0_2 t237 t238 t239 _ ?side1 ?side2 A8.out).mono ?_); (case side1 => exact Kd.C_below HR0_2.out (belA HB.out)); (case side2 => exact HC0_2.out); rintro e w64 ⟨v240, rfl, ho0, hb⟩; refine ⟨_, rfl, ?_⟩; have HO241 := Aside0.mk (Kd.R_lower ho0 (below_size (belA HB.out))); replace HO232 := Aside0.mk (Kd.R_below (by (with_reducible repeat (first | apply Kd.R_alloc | apply Kd.R_drewN | apply Kd.R_drew)); exact (Kd.R_mono (Kd.R_far (p := ⟨gb234, 2, none⟩) (Kd.R_far (p := ⟨gb234, 1, none⟩) (Kd.R_far (p := ⟨gb234, 0, none⟩) (Kd.R_types HO232.out BK234.out (by decide)) (fun _ hk => hk.2) (.int .i64 t228)) (fun _ hk => hk.2) (.int .i64 t229)) (fun _ hk => hk.2) (.slice Ao62 t230.length co62)) (fun _ h_ => h_.1))) hb); replace BK226 := Aside0.mk (blk_below (g := gb226) (o := .cells #[.int .i64 a0_0, .int .i64 a0_1, .slice A0_2 l0_2.length c0_2] 24 (0, 0)) (blkB BK226.out) hb); replace BK227 := Aside0.mk (blk_below (g := gb227) (o := .cells #[.int .i64 0, .int .i64 0, .slice none 0 0] 24 (0, 0)) (blkB BK227.out) hb); replace BK234 := Aside0.mk (blk_below (g := gb234) (o := .cells #[.int .i64 t228, .int .i64 t229, .slice Ao62 t230.length co62] 69 (0, 0)) (blkB BK234.out) hb); replace HB := Aside0.mk (below_step (belA HB.out) hb); (try clear hb); (try clear hb2); (try clear hk); (try clear hi); (try clear ho0)) | ((with_reducible refine gate_dst (N := 11) rfl ?_); refine boxE (N := 11) (cs := #[.int .i64 0, .int .i64 0, .slice none 0 0]) (t := 24) ?_; intro gb242 hg w65 hbox hb; have BK242 := Aside0.mk (hbox); have GW242 := Aside0.mk ((szA hg HB.out : w.heap.size ≤ gb242)); have GE242 := Aside0.mk ((szA hg HB.out : w.heap.size ≤ gb242)); have NB226_242 := Aside0.mk ((neL hg BK226.out : gb226 ≠ gb242)); have NB242_226 := Aside0.mk ((neG hg BK226.out : gb242 ≠ gb226)); have NB227_242 := Aside0.mk ((neL hg BK227.out : gb227 ≠ gb242)); have NB242_227 := Aside0.mk ((neG hg BK227.out : gb242 ≠ gb227)); have NB234_242 := Aside0.mk ((neL hg BK234.out : gb234 ≠ gb242)); have NB242_234 := Aside0.mk ((neG hg BK234.out : gb242 ≠ gb234)); replace HO232 := Aside0.mk (Kd.R_below (rowA HO232.out) hb); replace HO241 := Aside0.mk (Kd.R_below (rowA HO241.out) hb); replace BK226 := Aside0.mk (blk_below (g := gb226) (o := .cells #[.int .i64 a0_0, .int .i64 a0_1, .slice A0_2 l0_2.length c0_2] 24 (0, 0)) (blkA BK226.out) hb); replace BK227 := Aside0.mk (blk_below (g := gb227) (o := .cells #[.int .i64 0, .int .i64 0, .slice none 0 0] 24 (0, 0)) (blkA BK227.out) hb); replace BK234 := Aside0.mk (blk_below (g := gb234) (o := .cells #[.int .i64 t228, .int .i64 t229, .slice Ao62 t230.length co62] 69 (0, 0)) (blkA BK234.out) hb); replace HB := Aside0.mk (below_step (belA HB.out) hb); clear hb hbox hg; have hnb66 := NB242_226.out; have hnc66 := NB226_242.out; have hnb67 := NB242_227.out; have hnc67 := NB227_242.out; have hnb68 := NB242_234.out; have hnc68 := NB234_242.out; obtain ⟨hcz69_0, hcz69_1, hcz69_2, hfz69_0, hfz69_1, hfz69_2⟩ := bk3 BK242.out; obtain ⟨Ao70, co70, eo70⟩ := Kd.R_slice HO241.out; subst eo70; obtain ⟨hcz71_0, hcz71_1, hcz71_2, hfz71_0, hfz71_1, hfz71_2⟩ := bk3 BK234.out) | ((with_reducible refine gate_callee (f := 46) rfl ?_); refine goesL_ (some 40) rfl rfl Try.func46 (by kernel_rfl) rfl #[.agg #[.int .i64 t228, .int .i64 t229, .slice Ao62 t230.length co62]] rfl argA ?_; (with_reducible refine (qrlayout_frame_format.calls k t228 t229 _ _ t230 t243 t246 _ ?side1 ?side2 A9.out).mono ?_); (case side1 => refine (Kd.R_reads' (e := 3) (base := w.heap.size) (ok := fun k_ => True) (n := t230.length) (c := co62) ?_).2.2; exact (by (with_reducible repeat (first | apply Kd.R_alloc | apply Kd.R_drewN | apply Kd.R_drew)); exact (Kd.R_mono (Kd.R_far (p := ⟨gb242, 2, none⟩) (Kd.R_far (p := ⟨gb242, 1, none⟩) (Kd.R_far (p := ⟨gb242, 0, none⟩) (Kd.R_types HO232.out BK242.out (by decide)) (fun _ hk => hk.2) (.int .i64 t237)) (fun _ hk => hk.2) (.int .i64 t238)) (fun _ hk => hk.2) (.slice Ao70 t239.length co70)) (fun _ h_ => h_.1)))); (case side2 => exact (Kd.R_reads' HO232.out).2.1); rintro e w72 ⟨v244, v247, rfl, ho0, ho1, hb⟩; refine ⟨_, rfl, ?_⟩; have HO245 := Aside0.mk (Kd.R_lower ho0 (below_size (belA HB.out))); have HO248 := Aside0.mk (Kd.R_lower ho1 (below_size (belA HB.out))); replace HO232 := Aside0.mk (Kd.R_below (by (with_reducible repeat (first | apply Kd.R_alloc | apply Kd.R_drewN | apply Kd.R_drew)); exact (Kd.R_mono (Kd.R_far (p := ⟨gb242, 2, none⟩) (Kd.R_far (p := ⟨gb242, 1, none⟩) (Kd.R_far (p := ⟨gb242, 0, none⟩) (Kd.R_types HO232.out BK242.out (by decide)) (fun _ hk => hk.2) (.int .i64 t237)) (fun _ hk => hk.2) (.int .i64 t238)) (fun _ hk => hk.2) (.slice Ao70 t239.length co70)) (fun _ h_ => h_.1))) hb); replace HO241 := Aside0.mk (Kd.R_below (by (with_reducible repeat (first | apply Kd.R_alloc | apply Kd.R_drewN | apply Kd.R_drew)); exact (Kd.R_mono (Kd.R_far (p := ⟨gb242, 2, none⟩) (Kd.R_far (p := ⟨gb242, 1, none⟩) (Kd.R_far (p := ⟨gb242, 0, none⟩) (Kd.R_types HO241.out BK242.out (by decide)) (fun _ hk => hk.2) (.int .i64 t237)) (fun _ hk => hk.2) (.int .i64 t238)) (fun _ hk => hk.2) (.slice Ao70 t239.length co70)) (fun _ h_ => h_.1))) hb); replace BK226 := Aside0.mk (blk_below (g := gb226) (o := .cells #[.int .i64 a0_0, .int .i64 a0_1, .slice A0_2 l0_2.length c0_2] 24 (0, 0)) (blkB BK226.out) hb); replace BK227 := Aside0.mk (blk_below (g := gb227) (o := .cells #[.int .i64 0, .int .i64 0, .slice none 0 0] 24 (0, 0)) (blkB BK227.out) hb); replace BK234 := Aside0.mk (blk_below (g := gb234) (o := .cells #[.int .i64 t228, .int .i64 t229, .slice Ao62 t230.length co62] 69 (0, 0)) (blkB BK234.out) hb); replace BK242 := Aside0.mk (blk_below (g := gb242) (o := .cells #[.int .i64 t237, .int .i64 t238, .slice Ao70 t239.length co70] 24 (0, 0)) (blkB BK242.out) hb); replace HB := Aside0.mk (below_step (belA HB.out) hb); (try clear hb); (try clear hb2); (try clear hk); (try clear hi); (try clear ho0); (try clear ho1); obtain ⟨hcz73_0, hcz73_1, hcz73_2, hfz73_0, hfz73_1, hfz73_2⟩ := bk3 BK242.out; obtain ⟨Ao74, co74, eo74⟩ := Kd.R_slice HO245.out; subst eo74) | ((with_reducible refine gate_callee (f := 47) rfl ?_); refine goesL_ (some 47) rfl rfl Try.func47 (by kernel_rfl) rfl #[.agg #[.int .i64 t237, .int .i64 t238, .slice Ao70 t239.length co70], .slice Ao74 t243.length co74, .int .i64 t235] rfl argA ?_; (with_reducible refine (qrlayout_write.calls k t237 t238 (fun k_ => some k_ = (.slice Ao70 t239.length co70 : Value).ownBlock) (.slice Ao70 t239.length co70) t239 _ _ t243 t235 t249 w _ ?side1 ?side2 ?side3 ?side4 A10.out).mono ?_); (case side1 => exact belA HB.out); (case side2 => exact Kd.R_tight rfl HO241.out); (case side3 => exact Kd.C_kept_own ((Kd.R_apart' HO245.out (Kd.R_typed HO241.out) (by decide))) (fun k_ hk_ hs_ => (hk_.2) hs_)); (case side4 => exact (Kd.R_reads' HO245.out).2.1); rintro e w75 ⟨rfl, hy0, hb, hkp⟩; refine ⟨_, rfl, ?_⟩; replace BK226 := Aside0.mk (blk_kept (blkA BK226.out) hkp (fun hs_ => (fun e_ => (Kd.R_ne HO241.out BK226.out (by decide)) e_) hs_)); replace BK227 := Aside0.mk (blk_kept (blkA BK227.out) hkp (fun hs_ => (fun e_ => (Kd.R_ne HO241.out BK227.out (by decide)) e_) hs_)); replace HO232 := Aside0.mk (Kd.R_mono (ok' := fun k_ => True) (Kd.R_keptB ((Kd.R_apart' HO232.out (Kd.R_typed HO241.out) (by decide))) hkp (fun k_ hk_ hs_ => (hk_.2) hs_)) (fun k_ hk_ => trivial)); replace BK234 := Aside0.mk (blk_kept (blkA BK234.out) hkp (fun hs_ => (fun e_ => (Kd.R_ne HO241.out BK234.out (by decide)) e_) hs_)); replace BK242 := Aside0.mk (blk_kept (blkA BK242.out) hkp (fun hs_ => (fun e_ => (Kd.R_ne HO241.out BK242.out (by decide)) e_) hs_)); replace HO245 := Aside0.mk (Kd.R_mono (ok' := fun k_ => some k_ ≠ (v247 : Value).ownBlock) (Kd.R_keptB ((Kd.R_apart' HO245.out (Kd.R_typed HO241.out) (by decide))) hkp (fun k_ hk_ hs_ => (hk_.2) hs_)) (fun k_ hk_ => hk_.1.1)); replace HO248 := Aside0.mk (Kd.R_mono (ok' := fun k_ => some k_ ≠ (.slice Ao74 t243.length co74 : Value).ownBlock) (Kd.R_keptB ((Kd.R_apart' HO248.out (Kd.R_typed HO241.out) (by decide))) hkp (fun k_ hk_ hs_ => (hk_.2) hs_)) (fun k_ hk_ => hk_.1.1)); replace HO241 := Aside0.mk (Kd.R_reok rfl hy0 (fun k_ e_ => HO241.out.1 k_ e_)); replace HB := Aside0.mk (hb); (try clear hb); (try clear hkp); (try clear hy0); obtain ⟨hcz76_0, hcz76_1, hcz76_2, hfz76_0, hfz76_1, hfz76_2⟩ := bk3 BK242.out; obtain ⟨Ao77, co77, eo77⟩ := Kd.R_slice HO248.out; subst eo77) | ((with_reducible refine gate_callee (f := 47) rfl ?_); refine goesL_ (some 47) rfl rfl Try.func47 (by kernel_rfl) rfl #[.agg #[.int .i64 t237, .int .i64 t238, .slice Ao70 t239.length co70], .slice Ao77 t246.length co77, .int .i64 t235] rfl argA ?_; (with_reducible refine (qrlayout_write.calls k t237 t238 (fun k_ => some k_ = (.slice Ao70 t239.length co70 : Value).ownBlock) (.slice Ao70 t239.length co70) t249 _ _ t246 t235 t250 w _ ?side1 ?side2 ?side3 ?side4 A11.out).mono ?_); (case side1 => exact belA HB.out); (case side2 => exact Kd.R_tight rfl HO241.out); (case side3 => exact Kd.C_kept_own ((Kd.R_apart' HO248.out (Kd.R_typed HO241.out) (by decide))) (fun k_ hk_ hs_ => (hk_.2) hs_)); (case side4 => exact (Kd.R_reads' HO248.out).2.1); rintro e w78 ⟨rfl, hy0, hb, hkp⟩; refine ⟨_, rfl, ?_⟩; replace BK226 := Aside0.mk (blk_kept (blkA BK226.out) hkp (fun hs_ => (fun e_ => (Kd.R_ne HO241.out BK226.out (by decide)) e_) hs_)); replace BK227 := Aside0.mk (blk_kept (blkA BK227.out) hkp (fun hs_ => (fun e_ => (Kd.R_ne HO241.out BK227.out (by decide)) e_) hs_)); replace HO232 := Aside0.mk (Kd.R_mono (ok' := fun k_ => True) (Kd.R_keptB ((Kd.R_apart' HO232.out (Kd.R_typed HO241.out) (by decide))) hkp (fun k_ hk_ hs_ => (hk_.2) hs_)) (fun k_ hk_ => trivial)); replace BK234 := Aside0.mk (blk_kept (blkA BK234.out) hkp (fun hs_ => (fun e_ => (Kd.R_ne HO241.out BK234.out (by decide)) e_) hs_)); replace BK242 := Aside0.mk (blk_kept (blkA BK242.out) hkp (fun hs_ => (fun e_ => (Kd.R_ne HO241.out BK242.out (by decide)) e_) hs_)); replace HO245 := Aside0.mk (Kd.R_mono (ok' := fun k_ => some k_ ≠ (.slice Ao77 t246.length co77 : Value).ownBlock) (Kd.R_keptB ((Kd.R_apart' HO245.out (Kd.R_typed HO241.out) (by decide))) hkp (fun k_ hk_ hs_ => (hk_.2) hs_)) (fun k_ hk_ => hk_.1.1)); replace HO248 := Aside0.mk (Kd.R_mono (ok' := fun k_ => some k_ ≠ (.slice Ao74 t243.length co74 : Value).ownBlock) (Kd.R_keptB ((Kd.R_apart' HO248.out (Kd.R_typed HO241.out) (by decide))) hkp (fun k_ hk_ hs_ => (hk_.2) hs_)) (fun k_ hk_ => hk_.1.1)); replace HO241 := Aside0.mk (Kd.R_reok rfl hy0 (fun k_ e_ => HO241.out.1 k_ e_)); replace HB := Aside0.mk (hb); (try clear hb); (try clear hkp); (try clear hy0); obtain ⟨hcz79_0, hcz79_1, hcz79_2, hfz79_0, hfz79_1, hfz79_2⟩ := bk3 BK234.out) | ((with_reducible refine gate_callee (f := 48) rfl ?_); refine goesL_ (some 52) rfl rfl Try.func48 (by kernel_rfl) rfl #[.int .i64 t228] rfl argA ?_; (with_reducible refine (bch_Version.calls k t228 t251 t252 _ A12.out).mono ?_); rintro e w' ⟨rfl, ⟨nd, rfl⟩⟩; refine ⟨_, rfl, ?_⟩; (try (rw [drewN_self w78]; generalize hq_ : World.drewN w78 _ = w78; have n0_ : Aside0 (Kd.R (Kd.int .i64) 3 w78 w.heap.size (fun _ => True) (.slice Ao62 t230.length co62) t230) := ⟨by rw [← hq_]; exact (rowA HO232.out)⟩; have n1_ : Aside0 (Kd.R Kd.bool 4 w78 w.heap.size (fun _ => True) (.slice Ao70 t239.length co70) t250) := ⟨by rw [← hq_]; exact (rowA HO241.out)⟩; have n2_ : Aside0 (Kd.R k45 45 w78 w.heap.size (fun k_ => some k_ ≠ (.slice Ao77 t246.length co77 : Value).ownBlock) (.slice Ao74 t243.length co74) t243) := ⟨by rw [← hq_]; exact (rowA HO245.out)⟩; have n3_ : Aside0 (Kd.R k45 45 w78 w.heap.size (fun k_ => some k_ ≠ (.slice Ao74 t243.length co74 : Value).ownBlock) (.slice Ao77 t246.length co77) t246) := ⟨by rw [← hq_]; exact (rowA HO248.out)⟩; have n4_ : Aside0 (w78.heap[gb226]? = some (.cells #[.int .i64 a0_0, .int .i64 a0_1, .slice A0_2 l0_2.length c0_2] 24 (0, 0))) := ⟨by rw [← hq_]; exact (blkA BK226.out)⟩; have n5_ : Aside0 (w78.heap[gb227]? = some (.cells #[.int .i64 0, .int .i64 0, .slice none 0 0] 24 (0, 0))) := ⟨by rw [← hq_]; exact (blkA BK227.out)⟩; have n6_ : Aside0 (w78.heap[gb234]? = some (.cells #[.int .i64 t228, .int .i64 t229, .slice Ao62 t230.length co62] 69 (0, 0))) := ⟨by rw [← hq_]; exact (blkA BK234.out)⟩; have n7_ : Aside0 (w78.heap[gb242]? = some (.cells #[.int .i64 t237, .int .i64 t238, .slice Ao70 t239.length co70] 24 (0, 0))) := ⟨by rw [← hq_]; exact (blkA BK242.out)⟩; have n8_ : Aside0 (Below w.heap.size w w78) := ⟨by rw [← hq_]; exact (belA HB.out)⟩; clear HO232 HO241 HO245 HO248 BK226 BK227 BK234 BK242 HB hq_; have HO232 := n0_; have HO241 := n1_; have HO245 := n2_; have HO248 := n3_; have BK226 := n4_; have BK227 := n5_; have BK234 := n6_; have BK242 := n7_; have HB := n8_; clear n0_ n1_ n2_ n3_ n4_ n5_ n6_ n7_ n8_)); obtain ⟨hcz80_0, hcz80_1, hcz80_2, hfz80_0, hfz80_1, hfz80_2⟩ := bk3 BK242.out; obtain ⟨hcz81_0, hcz81_1, hcz81_2, hfz81_0, hfz81_1, hfz81_2⟩ := bk3 BK227.out)))))
    refine bodyPost_ret (results_ct rfl _ _ gb227 24 #[.int .i64 t237, .int .i64 t238, .slice Ao70 t239.length co70] (0, 0) _ rfl (blkB BK227.out) Try.underlying24 rfl (by kernel_rfl)) rfl ?_
    exact ⟨_, errA, by (with_reducible repeat (first | apply Kd.R_alloc | apply Kd.R_drewN | apply Kd.R_drew)); exact Kd.R_mono (Kd.R_far (p := ⟨gb227, 2, none⟩) (Kd.R_far (p := ⟨gb227, 1, none⟩) (Kd.R_far (p := ⟨gb227, 0, none⟩) (Kd.R_types HO241.out BK227.out (by decide)) (fun _ hk => hk.2) (.int .i64 t237)) (fun _ hk => hk.2) (.int .i64 t238)) (fun _ hk => hk.2) (.slice Ao70 t239.length co70)) (fun _ hk => trivial), belA HB.out⟩
  ·rw [if_neg c7] at H
   have c7b0 : (t236 == 0) = false := beq_eq_false_iff_ne.mpr c7
   have c7b1 : (t236 != 0) = true := bne_iff_ne.mpr c7
   simp only [Option.some.injEq, Prod.mk.injEq] at H
   obtain ⟨rfl, rfl, rfl, rfl⟩ := H
   go_enter Try.func17, Try.ntmps17
   iterate 1 ((first | (with_reducible refine wp_loop_rounds 3 ?_) | skip); (first | rw [rounds_succ] | skip); (try (go_wp2_with (first | ((with_reducible refine gate_dst (N := 3) rfl ?_); refine boxE (N := 3) (cs := #[.int .i64 a0_0, .int .i64 a0_1, .slice A0_2 l0_2.length c0_2]) (t := 24) ?_; intro gb226 hg w82 hbox hb; have BK226 := Aside0.mk (hbox); have GW226 := Aside0.mk ((szA hg HB.out : w.heap.size ≤ gb226)); have GE226 := Aside0.mk ((szA hg HB.out : w.heap.size ≤ gb226)); replace HB := Aside0.mk (below_step (belA HB.out) hb); clear hb hbox hg) | ((with_reducible refine gate_dst (N := 6) rfl ?_); refine boxE (N := 6) (cs := #[.int .i64 0, .int .i64 0, .slice none 0 0]) (t := 24) ?_; intro gb227 hg w83 hbox hb; have BK227 := Aside0.mk (hbox); have GW227 := Aside0.mk ((szA hg HB.out : w.heap.size ≤ gb227)); have GE227 := Aside0.mk ((szA hg HB.out : w.heap.size ≤ gb227)); have NB226_227 := Aside0.mk ((neL hg BK226.out : gb226 ≠ gb227)); have NB227_226 := Aside0.mk ((neG hg BK226.out : gb227 ≠ gb226)); replace BK226 := Aside0.mk (blk_below (g := gb226) (o := .cells #[.int .i64 a0_0, .int .i64 a0_1, .slice A0_2 l0_2.length c0_2] 24 (0, 0)) (blkA BK226.out) hb); replace HB := Aside0.mk (below_step (belA HB.out) hb); clear hb hbox hg; have hnb84 := NB226_227.out; have hnc84 := NB227_226.out; obtain ⟨hcz85_0, hcz85_1, hcz85_2, hfz85_0, hfz85_1, hfz85_2⟩ := bk3 BK226.out) | ((with_reducible refine gate_callee (f := 40) rfl ?_); refine goesL_ (some 20) rfl rfl Try.func40 (by kernel_rfl) rfl #[.agg #[.int .i64 a0_0, .int .i64 a0_1, .slice A0_2 l0_2.length c0_2]] rfl argA ?_; (with_reducible refine (qrlayout_sized.calls k a0_0 a0_1 _ _ l0_2 t228 t229 t230 t233 _ ?side1 ?side2 A4.out).mono ?_); (case side1 => exact lowA (Kd.C_below HR0_2.out HB.out)); (case side2 => exact HC0_2.out); rintro e w86 ⟨v231, rfl, ho0, hb⟩; refine ⟨_, rfl, ?_⟩; have HO232 := Aside0.mk (Kd.R_lower ho0 (below_size (belA HB.out))); replace BK226 := Aside0.mk (blk_below (g := gb226) (o := .cells #[.int .i64 a0_0, .int .i64 a0_1, .slice A0_2 l0_2.length c0_2] 24 (0, 0)) (blkA BK226.out) hb); replace BK227 := Aside0.mk (blk_below (g := gb227) (o := .cells #[.int .i64 0, .int .i64 0, .slice none 0 0] 24 (0, 0)) (blkA BK227.out) hb); replace HB := Aside0.mk (below_step (belA HB.out) hb); (try clear hb); (try clear hb2); (try clear hk); (try clear hi); (try clear ho0)) | ((with_reducible refine gate_dst (N := 8) rfl ?_); refine boxE (N := 8) (cs := #[.int .i64 0, .int .i64 0, .slice none 0 0]) (t := 69) ?_; intro gb234 hg w87 hbox hb; have BK234 := Aside0.mk (hbox); have GW234 := Aside0.mk ((szA hg HB.out : w.heap.size ≤ gb234)); have GE234 := Aside0.mk ((szA hg HB.out : w.heap.size ≤ gb234)); have NB226_234 := Aside0.mk ((neL hg BK226.out : gb226 ≠ gb234)); have NB234_226 := Aside0.mk ((neG hg BK226.out : gb234 ≠ gb226)); have NB227_234 := Aside0.mk ((neL hg BK227.out : gb227 ≠ gb234)); have NB234_227 := Aside0.mk ((neG hg BK227.out : gb234 ≠ gb227)); replace HO232 := Aside0.mk (Kd.R_below (rowA HO232.out) hb); replace BK226 := Aside0.mk (blk_below (g := gb226) (o := .cells #[.int .i64 a0_0, .int .i64 a0_1, .slice A0_2 l0_2.length c0_2] 24 (0, 0)) (blkA BK226.out) hb); replace BK227 := Aside0.mk (blk_below (g := gb227) (o := .cells #[.int .i64 0, .int .i64 0, .slice none 0 0] 24 (0, 0)) (blkA BK227.out) hb); replace HB := Aside0.mk (below_step (belA HB.out) hb); clear hb hbox hg; have hnb88 := NB234_226.out; have hnc88 := NB226_234.out; have hnb89 := NB234_227.out; have hnc89 := NB227_234.out; obtain ⟨hcz90_0, hcz90_1, hcz90_2, hfz90_0, hfz90_1, hfz90_2⟩ := bk3 BK234.out; obtain ⟨Ao91, co91, eo91⟩ := Kd.R_slice HO232.out; subst eo91) | ((with_reducible refine gate_callee (f := 44) rfl ?_); refine goesL_ (some 30) rfl rfl Try.func44 (by kernel_rfl) rfl #[.int .i64 a1, .int .i64 a2] rfl argA ?_; (with_reducible refine (bch_Format.calls k a1 a2 t235 t236 _ A6.out).mono ?_); rintro e w' ⟨rfl, ⟨nd, rfl⟩⟩; refine ⟨_, rfl, ?_⟩; obtain ⟨hcz92_0, hcz92_1, hcz92_2, hfz92_0, hfz92_1, hfz92_2⟩ := bk3 BK227.out)))))
   refine bodyPost_ret (results_ct rfl _ _ gb227 24 #[.int .i64 0, .int .i64 0, .slice none 0 0] (0, 0) _ rfl (blkB BK227.out) Try.underlying24 rfl (by kernel_rfl)) rfl ?_
   exact ⟨_, errA, nilA, belA HB.out⟩
 ·rw [if_neg c5] at H
  have c5b0 : (t233 == 0) = false := beq_eq_false_iff_ne.mpr c5
  have c5b1 : (t233 != 0) = true := bne_iff_ne.mpr c5
  simp only [Option.some.injEq, Prod.mk.injEq] at H
  obtain ⟨rfl, rfl, rfl, rfl⟩ := H
  go_enter Try.func17, Try.ntmps17
  iterate 1 ((first | (with_reducible refine wp_loop_rounds 3 ?_) | skip); (first | rw [rounds_succ] | skip); (try (go_wp2_with (first | ((with_reducible refine gate_dst (N := 3) rfl ?_); refine boxE (N := 3) (cs := #[.int .i64 a0_0, .int .i64 a0_1, .slice A0_2 l0_2.length c0_2]) (t := 24) ?_; intro gb226 hg w93 hbox hb; have BK226 := Aside0.mk (hbox); have GW226 := Aside0.mk ((szA hg HB.out : w.heap.size ≤ gb226)); have GE226 := Aside0.mk ((szA hg HB.out : w.heap.size ≤ gb226)); replace HB := Aside0.mk (below_step (belA HB.out) hb); clear hb hbox hg) | ((with_reducible refine gate_dst (N := 6) rfl ?_); refine boxE (N := 6) (cs := #[.int .i64 0, .int .i64 0, .slice none 0 0]) (t := 24) ?_; intro gb227 hg w94 hbox hb; have BK227 := Aside0.mk (hbox); have GW227 := Aside0.mk ((szA hg HB.out : w.heap.size ≤ gb227)); have GE227 := Aside0.mk ((szA hg HB.out : w.heap.size ≤ gb227)); have NB226_227 := Aside0.mk ((neL hg BK226.out : gb226 ≠ gb227)); have NB227_226 := Aside0.mk ((neG hg BK226.out : gb227 ≠ gb226)); replace BK226 := Aside0.mk (blk_below (g := gb226) (o := .cells #[.int .i64 a0_0, .int .i64 a0_1, .slice A0_2 l0_2.length c0_2] 24 (0, 0)) (blkA BK226.out) hb); replace HB := Aside0.mk (below_step (belA HB.out) hb); clear hb hbox hg; have hnb95 := NB226_227.out; have hnc95 := NB227_226.out; obtain ⟨hcz96_0, hcz96_1, hcz96_2, hfz96_0, hfz96_1, hfz96_2⟩ := bk3 BK226.out) | ((with_reducible refine gate_callee (f := 40) rfl ?_); refine goesL_ (some 20) rfl rfl Try.func40 (by kernel_rfl) rfl #[.agg #[.int .i64 a0_0, .int .i64 a0_1, .slice A0_2 l0_2.length c0_2]] rfl argA ?_; (with_reducible refine (qrlayout_sized.calls k a0_0 a0_1 _ _ l0_2 t228 t229 t230 t233 _ ?side1 ?side2 A4.out).mono ?_); (case side1 => exact lowA (Kd.C_below HR0_2.out HB.out)); (case side2 => exact HC0_2.out); rintro e w97 ⟨v231, rfl, ho0, hb⟩; refine ⟨_, rfl, ?_⟩; have HO232 := Aside0.mk (Kd.R_lower ho0 (below_size (belA HB.out))); replace BK226 := Aside0.mk (blk_below (g := gb226) (o := .cells #[.int .i64 a0_0, .int .i64 a0_1, .slice A0_2 l0_2.length c0_2] 24 (0, 0)) (blkA BK226.out) hb); replace BK227 := Aside0.mk (blk_below (g := gb227) (o := .cells #[.int .i64 0, .int .i64 0, .slice none 0 0] 24 (0, 0)) (blkA BK227.out) hb); replace HB := Aside0.mk (below_step (belA HB.out) hb); (try clear hb); (try clear hb2); (try clear hk); (try clear hi); (try clear ho0)) | ((with_reducible refine gate_dst (N := 8) rfl ?_); refine boxE (N := 8) (cs := #[.int .i64 0, .int .i64 0, .slice none 0 0]) (t := 69) ?_; intro gb234 hg w98 hbox hb; have BK234 := Aside0.mk (hbox); have GW234 := Aside0.mk ((szA hg HB.out : w.heap.size ≤ gb234)); have GE234 := Aside0.mk ((szA hg HB.out : w.heap.size ≤ gb234)); have NB226_234 := Aside0.mk ((neL hg BK226.out : gb226 ≠ gb234)); have NB234_226 := Aside0.mk ((neG hg BK226.out : gb234 ≠ gb226)); have NB227_234 := Aside0.mk ((neL hg BK227.out : gb227 ≠ gb234)); have NB234_227 := Aside0.mk ((neG hg BK227.out : gb234 ≠ gb227)); replace HO232 := Aside0.mk (Kd.R_below (rowA HO232.out) hb); replace BK226 := Aside0.mk (blk_below (g := gb226) (o := .cells #[.int .i64 a0_0, .int .i64 a0_1, .slice A0_2 l0_2.length c0_2] 24 (0, 0)) (blkA BK226.out) hb); replace BK227 := Aside0.mk (blk_below (g := gb227) (o := .cells #[.int .i64 0, .int .i64 0, .slice none 0 0] 24 (0, 0)) (blkA BK227.out) hb); replace HB := Aside0.mk (below_step (belA HB.out) hb); clear hb hbox hg; have hnb99 := NB234_226.out; have hnc99 := NB226_234.out; have hnb100 := NB234_227.out; have hnc100 := NB227_234.out; obtain ⟨hcz101_0, hcz101_1, hcz101_2, hfz101_0, hfz101_1, hfz101_2⟩ := bk3 BK234.out; obtain ⟨Ao102, co102, eo102⟩ := Kd.R_slice HO232.out; subst eo102; obtain ⟨hcz103_0, hcz103_1, hcz103_2, hfz103_0, hfz103_1, hfz103_2⟩ := bk3 BK227.out)))))
  refine bodyPost_ret (results_ct rfl _ _ gb227 24 #[.int .i64 0, .int .i64 0, .slice none 0 0] (0, 0) _ rfl (blkB BK227.out) Try.underlying24 rfl (by kernel_rfl)) rfl ?_
  exact ⟨_, errA, nilA, belA HB.out⟩

def qrlayout_read.l0 : Nat → Int → List (S45) → Int → Int → Int → Int → List Bool → Option (Int)
 | 0, _, _, _, _, _, _, _ => none
 | k + 1, x5, x8, x9, x10, x262000, x262001, x262002 => if x10 < x9 then (if 0 ≤ x10 then (if x10 < (x8.length : Int) then (if 0 ≤ (wrap64 ((wrap64 (((rd_T45 x8 x10).f1) * x262000)) + ((rd_T45 x8 x10).f0))) then (if (wrap64 ((wrap64 (((rd_T45 x8 x10).f1) * x262000)) + ((rd_T45 x8 x10).f0))) < (x262002.length : Int) then (if rdOf false x262002 (wrap64 ((wrap64 (((rd_T45 x8 x10).f1) * x262000)) + ((rd_T45 x8 x10).f0))) = true then (qrlayout_read.l0 k (Go.bits .or .i64 x5 (shl .i64 1 x10)) x8 x9 (wrap64 (x10 + 1)) x262000 x262001 x262002) else (qrlayout_read.l0 k x5 x8 x9 (wrap64 (x10 + 1)) x262000 x262001 x262002)) else (none)) else (none)) else (none)) else (none)) else (some x5)
def qrlayout_read.f (k : Nat) (a0_0 : Int) (a0_1 : Int) (l0_2 : List Bool) (l1 : List (S45)) : Option (Int) := qrlayout_read.l0 k 0 l1 (l1.length : Int) 0 a0_0 a0_1 l0_2
set_option maxHeartbeats 8000000 in
set_option maxRecDepth 100000 in
theorem qrlayout_read.calls (k : Nat) (a0_0 : Int) (a0_1 : Int) (A0_2 : Option Addr) (c0_2 : Nat) (l0_2 : List Bool) (A1 : Option Addr) (c1 : Nat) (l1 : List (S45)) (r : Int) (w : World) (hr0_2 : Kd.C Kd.bool w A0_2 l0_2.length l0_2) (hc0_2 : l0_2.length ≤ c0_2) (hr1 : Kd.C k45 w A1 l1.length l1) (hc1 : l1.length ≤ c1) (h : qrlayout_read.f k a0_0 a0_1 l0_2 l1 = some r) :
  Calls Try.prog 55 #[.agg #[.int .i64 a0_0, .int .i64 a0_1, .slice A0_2 l0_2.length c0_2], .slice A1 l1.length c1] w fun e w' => e = .returned (.int .i64 r) ∧ Below w.heap.size w w' := by
 have hu24 := Try.underlying24
 have hu45 := Try.underlying45
 have HR0_2 := Aside0.mk hr0_2
 have HC0_2 := Aside0.mk hc0_2
 clear hr0_2 hc0_2
 have HR1 := Aside0.mk hr1
 have HC1 := Aside0.mk hc1
 clear hr1 hc1
 have HB := Aside0.mk (Below.refl w.heap.size w)
 have H : (qrlayout_read.l0 k 0 l1 (l1.length : Int) 0 a0_0 a0_1 l0_2) = some r := h
 clear h
 have H' := Aside0.mk H
 clear H
 go_enter Try.func55, Try.ntmps55
 go_wp2_with (first | ((with_reducible refine gate_dst (N := 2) rfl ?_); refine boxE (N := 2) (cs := #[.int .i64 a0_0, .int .i64 a0_1, .slice A0_2 l0_2.length c0_2]) (t := 24) ?_; intro gb261 hg w3 hbox hb; have BK261 := Aside0.mk (hbox); have GW261 := Aside0.mk ((szA hg HB.out : w.heap.size ≤ gb261)); have GE261 := Aside0.mk ((szA hg HB.out : w.heap.size ≤ gb261)); replace HB := Aside0.mk (below_step (belA HB.out) hb); clear hb hbox hg))
 go_loopg [5, 10] k (fun kq v5 v10 w' => ∃ (x5_1 : Int) (x10_1 : Int), v5 = .int .i64 x5_1 ∧ v10 = .int .i64 x10_1 ∧ Aside0 (qrlayout_read.l0 kq x5_1 l1 (l1.length : Int) x10_1 a0_0 a0_1 l0_2 = some r) ∧ Aside0 (kq ≤ k) ∧ Aside0 (w'.heap[gb261]? = some (.cells #[.int .i64 a0_0, .int .i64 a0_1, (.slice A0_2 l0_2.length c0_2)] 24 (0, 0))) ∧ Aside0 (Below w.heap.size w w'))
 case atStart => exact ⟨(0), (0), smpA, smpA, H', ⟨Nat.le_refl _⟩, ⟨blkA BK261.out⟩, ⟨belA HB.out⟩⟩
 case round =>
  clear H'
  try clear c1
  try clear p2
  obtain ⟨x5_1, x10_1, rfl, rfl, HA, HK1, BK261, HB⟩ := hrel
  cases gk with
  | zero => exact absurd HA.out (by simp [qrlayout_read.l0])
  | succ k1 =>
   have H := HA.out
   clear HA
   simp only [qrlayout_read.l0] at H
   by_cases c4 : x10_1 < (l1.length : Int)
   ·rw [if_pos c4] at H
    have c4b0 : decide (x10_1 < (l1.length : Int)) = true := decide_eq_true c4
    clear c4
    by_cases c5 : 0 ≤ x10_1
    ·rw [if_pos c5] at H
     have c5b0 : decide (0 ≤ x10_1) = true := decide_eq_true c5
     clear c5
     by_cases c6 : x10_1 < (l1.length : Int)
     ·rw [if_pos c6] at H
      have c6b0 : decide (x10_1 < (l1.length : Int)) = true := decide_eq_true c6
      clear c6
      obtain ⟨ji7, hji7⟩ : ∃ j_ : Int, (wrap64 ((wrap64 (((rd_T45 l1 x10_1).f1) * a0_0)) + ((rd_T45 l1 x10_1).f0))) = j_ := ⟨_, rfl⟩
      replace H : (if 0 ≤ (ji7) then (if (ji7) < (l0_2.length : Int) then (if rdOf false l0_2 (ji7) = true then (qrlayout_read.l0 k1 (Go.bits .or .i64 x5_1 (shl .i64 1 x10_1)) l1 (l1.length : Int) (wrap64 (x10_1 + 1)) a0_0 a0_1 l0_2) else (qrlayout_read.l0 k1 x5_1 l1 (l1.length : Int) (wrap64 (x10_1 + 1)) a0_0 a0_1 l0_2)) else (none)) else (none)) = some r := by first | (rw [hji7] at H; exact H) | (simp only [hji7] at H ⊢; exact H)
      have hji7w : (IntKind.i64.wrap ((wrap64 (((rd_T45 l1 x10_1).f1) * a0_0)) + ((rd_T45 l1 x10_1).f0))) = ji7 := (i64_w _).trans hji7
      by_cases c8 : 0 ≤ (ji7)
      ·rw [if_pos c8] at H
       have c8b0 : decide (0 ≤ (ji7)) = true := decide_eq_true c8
       clear c8
       by_cases c9 : (ji7) < (l0_2.length : Int)
       ·rw [if_pos c9] at H
        have c9b0 : decide ((ji7) < (l0_2.length : Int)) = true := decide_eq_true c9
        clear c9
        obtain ⟨bq10, hbq10⟩ : ∃ b_ : Bool, b_ = (rdOf false l0_2 (ji7)) := ⟨_, rfl⟩
        replace H : (if bq10 = true then (qrlayout_read.l0 k1 (Go.bits .or .i64 x5_1 (shl .i64 1 x10_1)) l1 (l1.length : Int) (wrap64 (x10_1 + 1)) a0_0 a0_1 l0_2) else (qrlayout_read.l0 k1 x5_1 l1 (l1.length : Int) (wrap64 (x10_1 + 1)) a0_0 a0_1 l0_2)) = some r := by rw [← hbq10] at H; exact H
        have Nbq10 := Aside0.mk hbq10
        clear hbq10
        by_cases c11 : bq10 = true
        ·subst c11
         have H1 : (qrlayout_read.l0 k1 (Go.bits .or .i64 x5_1 (shl .i64 1 x10_1)) l1 (l1.length : Int) (wrap64 (x10_1 + 1)) a0_0 a0_1 l0_2) = some r := by rw [if_pos rfl] at H; exact H
         clear H
         have H := H1
         clear H1
         have c12b0 := eq_true (of_decide_eq_true (by first | (with_reducible assumption) | assumption) : 0 ≤ x10_1)
         obtain ⟨ji13, hji13⟩ : ∃ j_ : Int, (shl .i64 1 x10_1) = j_ := ⟨_, rfl⟩
         replace H : (qrlayout_read.l0 k1 (Go.bits .or .i64 x5_1 (ji13)) l1 (l1.length : Int) (wrap64 (x10_1 + 1)) a0_0 a0_1 l0_2) = some r := by first | (rw [hji13] at H; exact H) | (simp only [hji13] at H ⊢; exact H)
         have hji13_ : (IntKind.i64.wrap (1 * 2 ^ min x10_1.toNat 64)) = ji13 := hji13
         have hji13z : x10_1 ≤ 64 → (IntKind.i64.wrap (1 * 2 ^ x10_1.toNat)) = ji13 := shl_small hji13
         have hji13u : (IntKind.i64.wrap (2 ^ min x10_1.toNat 64)) = ji13 := by have h_ := hji13_; rw [Int.one_mul] at h_; exact h_
         have hji13v : x10_1 ≤ 64 → (IntKind.i64.wrap (2 ^ x10_1.toNat)) = ji13 := fun hle_ => by have h_ := hji13z hle_; rw [Int.one_mul] at h_; exact h_
         have hji13y : (wrap64 (1 * 2 ^ min x10_1.toNat 64)) = ji13 := (i64_w _).symm.trans hji13_
         have hji13x : x10_1 ≤ 64 → (wrap64 (1 * 2 ^ x10_1.toNat)) = ji13 := fun h_ => (i64_w _).symm.trans (hji13z h_)
         have H' := Aside0.mk H
         clear H
         have p262 : 0 ≤ (x10_1 : Int) := of_decide_eq_true (by first | (with_reducible assumption) | assumption)
         have q262 : x10_1 < (l1.length : Int) := of_decide_eq_true (by first | (with_reducible assumption) | assumption)
         obtain ⟨ad262, e262, hx262_0, hx262_1⟩ := at_T45 HR1.out x10_1 p262 q262
         cases e262
         replace hx262_0 := (HB.out.cell (World.block_lt_of_cell? w _ hx262_0)).trans hx262_0
         replace hx262_1 := (HB.out.cell (World.block_lt_of_cell? w _ hx262_1)).trans hx262_1
         replace p262 := eq_true p262
         replace q262 := eq_true q262
         go_wp2_with (first | ((with_reducible refine gate_dst (N := 7) rfl ?_); refine boxE (N := 7) (cs := #[.int .i64 0, .int .i64 0]) (t := 45) ?_; intro gb263 hg w14 hbox hb; have BK263 := Aside0.mk (hbox); have GW263 := Aside0.mk ((szA hg HB.out : w.heap.size ≤ gb263)); have GE263 := Aside0.mk ((szA hg HB.out : w.heap.size ≤ gb263)); have NB261_263 := Aside0.mk ((neL hg BK261.out : gb261 ≠ gb263)); have NB263_261 := Aside0.mk ((neG hg BK261.out : gb263 ≠ gb261)); replace BK261 := Aside0.mk (blk_below (g := gb261) (o := .cells #[.int .i64 a0_0, .int .i64 a0_1, .slice A0_2 l0_2.length c0_2] 24 (0, 0)) (blkA BK261.out) hb); replace HB := Aside0.mk (below_step (belA HB.out) hb); clear hb hbox hg; have hnb15 := NB263_261.out; have hnc15 := NB261_263.out; obtain ⟨hcz16_0, hcz16_1, hfz16_0, hfz16_1⟩ := bk2 BK263.out; obtain ⟨hcz17_0, hcz17_1, hcz17_2, hfz17_0, hfz17_1, hfz17_2⟩ := bk3 BK261.out; have p264 : 0 ≤ ((ji7) : Int) := of_decide_eq_true (by first | (with_reducible assumption) | assumption); have q264 : (ji7) < (l0_2.length : Int) := of_decide_eq_true (by first | (with_reducible assumption) | assumption); obtain ⟨ad264, e264, hx264_0⟩ := Kd.at_bool HR0_2.out (ji7) p264 q264; (try rw [← Nbq10.out] at hx264_0); cases e264; have hn264_0 : ad264.block ≠ gb263 := Nat.ne_of_lt (Nat.lt_of_lt_of_le (by have := World.block_lt_of_cell? _ _ hx264_0; first | rwa [add_block] at this | exact this) GW263.out); have hn264_1 : ad264.block ≠ gb263 := Nat.ne_of_lt (Nat.lt_of_lt_of_le (by have := World.block_lt_of_cell? _ _ hx264_0; first | rwa [add_block] at this | exact this) GW263.out); replace hx264_0 := (HB.out.cell (World.block_lt_of_cell? w _ hx264_0)).trans hx264_0; replace hx264_0 := (cell_far (p := ⟨gb263, 0, none⟩) (by first | (rw [add_block]; exact hn264_0) | (show (Addr.add _ _).block ≠ _; rw [add_block]; exact hn264_0) | exact hn264_0) (.int .i64 ((rd_T45 l1 x10_1).f0))).trans hx264_0; replace hx264_0 := (cell_far (p := ⟨gb263, 1, none⟩) (by first | (rw [add_block]; exact hn264_1) | (show (Addr.add _ _).block ≠ _; rw [add_block]; exact hn264_1) | exact hn264_1) (.int .i64 ((rd_T45 l1 x10_1).f1))).trans hx264_0; clear hn264_0; clear hn264_1; replace p264 := eq_true p264; replace q264 := eq_true q264))
         go_roundg k1
         case measure => have := HK1.out; omega
         case rel => exact ⟨(Go.bits .or .i64 x5_1 (ji13)), (wrap64 (x10_1 + 1)), (by first | rfl | (simp; done) | (simp only [← hji13] <;> (first | rfl | simp)) | (simp [*]; done)), smpA, H', ⟨by have := HK1.out; omega⟩, ⟨blkB BK261.out⟩, ⟨belA HB.out⟩⟩
        ·replace c11 := Bool.eq_false_iff.mpr c11
         subst c11
         have H1 : (qrlayout_read.l0 k1 x5_1 l1 (l1.length : Int) (wrap64 (x10_1 + 1)) a0_0 a0_1 l0_2) = some r := by rw [if_neg (show ¬ (false = true) by decide)] at H; exact H
         clear H
         have H := H1
         clear H1
         have H' := Aside0.mk H
         clear H
         have p262 : 0 ≤ (x10_1 : Int) := of_decide_eq_true (by first | (with_reducible assumption) | assumption)
         have q262 : x10_1 < (l1.length : Int) := of_decide_eq_true (by first | (with_reducible assumption) | assumption)
         obtain ⟨ad262, e262, hx262_0, hx262_1⟩ := at_T45 HR1.out x10_1 p262 q262
         cases e262
         replace hx262_0 := (HB.out.cell (World.block_lt_of_cell? w _ hx262_0)).trans hx262_0
         replace hx262_1 := (HB.out.cell (World.block_lt_of_cell? w _ hx262_1)).trans hx262_1
         replace p262 := eq_true p262
         replace q262 := eq_true q262
         go_wp2_with (first | ((with_reducible refine gate_dst (N := 7) rfl ?_); refine boxE (N := 7) (cs := #[.int .i64 0, .int .i64 0]) (t := 45) ?_; intro gb263 hg w18 hbox hb; have BK263 := Aside0.mk (hbox); have GW263 := Aside0.mk ((szA hg HB.out : w.heap.size ≤ gb263)); have GE263 := Aside0.mk ((szA hg HB.out : w.heap.size ≤ gb263)); have NB261_263 := Aside0.mk ((neL hg BK261.out : gb261 ≠ gb263)); have NB263_261 := Aside0.mk ((neG hg BK261.out : gb263 ≠ gb261)); replace BK261 := Aside0.mk (blk_below (g := gb261) (o := .cells #[.int .i64 a0_0, .int .i64 a0_1, .slice A0_2 l0_2.length c0_2] 24 (0, 0)) (blkA BK261.out) hb); replace HB := Aside0.mk (below_step (belA HB.out) hb); clear hb hbox hg; have hnb19 := NB263_261.out; have hnc19 := NB261_263.out; obtain ⟨hcz20_0, hcz20_1, hfz20_0, hfz20_1⟩ := bk2 BK263.out; obtain ⟨hcz21_0, hcz21_1, hcz21_2, hfz21_0, hfz21_1, hfz21_2⟩ := bk3 BK261.out; have p264 : 0 ≤ ((ji7) : Int) := of_decide_eq_true (by first | (with_reducible assumption) | assumption); have q264 : (ji7) < (l0_2.length : Int) := of_decide_eq_true (by first | (with_reducible assumption) | assumption); obtain ⟨ad264, e264, hx264_0⟩ := Kd.at_bool HR0_2.out (ji7) p264 q264; (try rw [← Nbq10.out] at hx264_0); cases e264; have hn264_0 : ad264.block ≠ gb263 := Nat.ne_of_lt (Nat.lt_of_lt_of_le (by have := World.block_lt_of_cell? _ _ hx264_0; first | rwa [add_block] at this | exact this) GW263.out); have hn264_1 : ad264.block ≠ gb263 := Nat.ne_of_lt (Nat.lt_of_lt_of_le (by have := World.block_lt_of_cell? _ _ hx264_0; first | rwa [add_block] at this | exact this) GW263.out); replace hx264_0 := (HB.out.cell (World.block_lt_of_cell? w _ hx264_0)).trans hx264_0; replace hx264_0 := (cell_far (p := ⟨gb263, 0, none⟩) (by first | (rw [add_block]; exact hn264_0) | (show (Addr.add _ _).block ≠ _; rw [add_block]; exact hn264_0) | exact hn264_0) (.int .i64 ((rd_T45 l1 x10_1).f0))).trans hx264_0; replace hx264_0 := (cell_far (p := ⟨gb263, 1, none⟩) (by first | (rw [add_block]; exact hn264_1) | (show (Addr.add _ _).block ≠ _; rw [add_block]; exact hn264_1) | exact hn264_1) (.int .i64 ((rd_T45 l1 x10_1).f1))).trans hx264_0; clear hn264_0; clear hn264_1; replace p264 := eq_true p264; replace q264 := eq_true q264))
         go_roundg k1
         case measure => have := HK1.out; omega
         case rel => exact ⟨(x5_1), (wrap64 (x10_1 + 1)), smpA, smpA, H', ⟨by have := HK1.out; omega⟩, ⟨blkB BK261.out⟩, ⟨belA HB.out⟩⟩
       ·rw [if_neg c9] at H
        exact absurd H (by simp)
      ·rw [if_neg c8] at H
       exact absurd H (by simp)
     ·rw [if_neg c6] at H
      exact absurd H (by simp)
    ·rw [if_neg c5] at H
     exact absurd H (by simp)
   ·rw [if_neg c4] at H
    have c4b0 : decide (x10_1 < (l1.length : Int)) = false := decide_eq_false c4
    clear c4
    obtain rfl := Option.some.inj H
    go_wp2
    go_ret
    exact ⟨errA, belA HB.out⟩

end Go.Proofs.Ytbbnagjfjgkgjaa.L
