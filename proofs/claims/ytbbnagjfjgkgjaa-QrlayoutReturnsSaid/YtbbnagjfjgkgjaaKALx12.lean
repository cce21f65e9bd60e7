-- Written by a program of this session out of the kit's print of the loaded functions (see wip/).
import Derived.Test.YtbbnagjfjgkgjaaKALx0
import Derived.Test.YtbbnagjfjgkgjaaKALx5
import Derived.Test.YtbbnagjfjgkgjaaKALx8
import Derived.Test.YtbbnagjfjgkgjaaKALx9
import Derived.Test.YtbbnagjfjgkgjaaKALx11
import Derived.RangeFuncBox
namespace Go.Proofs.Ytbbnagjfjgkgjaa.L
open Go.RowKit Go.Proofs.YtbbnagjfjgkgjaaW.PrintWords Go.Proofs.YtbbnagjfjgkgjaaW.PrintLast Go.Proofs.YtbbnagjfjgkgjaaW.PrintMore
attribute [local go_sem] max2_int min2_int max_two min_two max_three min_three max_four min_four   -- for this text's walks alone
set_option linter.unusedVariables false
set_option linter.unusedSimpArgs false

attribute [local go_sem] index81_0' index81_1'
theorem cell_alloc_q {W : World} {a : Addr} {v : Value} (o : Obj) (h : W.cell? a = some v) : (W.alloc o).cell? a = some v := cell_kept h (World.grownBy_alloc W o none) (fun r e => by cases e)
def rdStep (k : Nat) (W H : Int) (dk : List Bool) (pl : List S45) (ba : Int × Int × Int) : Option (Int × Int × Int) :=
 (qrlayout_read.f k W H dk pl).bind fun wd => (bch_ParseFormat.f k wd).bind fun r => some (if r.2.2.2 = 0 ∧ (ba.1 < 0 ∨ r.2.2.1 < ba.1) then (r.2.2.1, r.1, r.2.1) else ba)
def rdRest (k : Nat) (v s : Int) (l : List Int) (W H : Int) (dk : List Bool) : Option (Int × Int × Int × Int) :=
 (qrlayout_frame_format.f k v s l).bind fun pq => (rdStep k W H dk pq.1 (-1, 0, 0)).bind fun b1 => (rdStep k W H dk pq.2 b1).bind fun b2 => some (if b2.1 < 0 then (0, 0, 0, 21) else (v, b2.2.1, b2.2.2, 0))
def qrlayout_Read.f (k : Nat) (W H : Int) (dk : List Bool) : Option (Int × Int × Int × Int) :=
 (qrlayout_sized.f k W H dk).bind fun z => if z.2.2.2 = 0 then (if z.1 ≥ 7 then (qrlayout_frame_confirm.f k z.1 z.2.1 z.2.2.1 W H dk).bind fun c => if c = 0 then rdRest k z.1 z.2.1 z.2.2.1 W H dk else some (0, 0, 0, c) else rdRest k z.1 z.2.1 z.2.2.1 W H dk) else some (0, 0, 0, z.2.2.2)
set_option maxRecDepth 100000 in
set_option maxHeartbeats 8000000 in
theorem qrlayout_Read.calls (k : Nat) (W H : Int) (B : Option Addr) (d : Nat) (dk : List Bool) (r1 r2 r3 r4 : Int) (w : World)
  (hB : Kd.C Kd.bool w B dk.length dk) (hd : dk.length ≤ d) (h : qrlayout_Read.f k W H dk = some (r1, r2, r3, r4)) :
  Calls Try.prog 19 #[.agg #[.int .i64 W, .int .i64 H, .slice B dk.length d]] w fun e w' => e = .returned (.tuple #[.int .i64 r1, .int .i64 r2, .int .i64 r3, .int .i64 r4]) ∧ Below w.heap.size w w' := by
 have hu69 := Try.underlying69
 have hu24 := Try.underlying24
 have hu81 := Try.underlying81
 simp only [qrlayout_Read.f, Option.bind_eq_some_iff] at h
 obtain ⟨⟨v, s, l, e0⟩, hz, h⟩ := h
 dsimp only at h
 have hb0 : ∀ o, Below w.heap.size w (w.alloc o) := fun o => (Below.refl _ w).alloc (Nat.le_refl _) _
 by_cases he0 : e0 = 0
 ·rw [if_pos he0] at h
  have z0 : (e0 == 0) = true := beq_iff_eq.mpr he0
  have z1 : (e0 != 0) = false := bne_eq_false_iff_eq.mpr he0
  subst he0
  by_cases hv7 : v ≥ 7
  ·rw [if_pos hv7] at h
   have v7 : decide (7 ≤ v) = true := decide_eq_true hv7
   obtain ⟨cc, hcc, h⟩ := Option.bind_eq_some_iff.mp h
   by_cases hc0 : cc = 0
   ·rw [if_pos hc0] at h
    have x1 : (cc != 0) = false := bne_eq_false_iff_eq.mpr hc0
    subst hc0
    simp only [rdRest, rdStep, Option.bind_eq_some_iff, Option.some.injEq] at h
    obtain ⟨⟨p0, p1⟩, hfo, b1, ⟨wd1, hwd1, ⟨lv1, mk1, d1, e1⟩, hp1, rfl⟩, b2, ⟨wd2, hwd2, ⟨lv2, mk2, d2, e2⟩, hp2, rfl⟩, hr⟩ := h
    dsimp only at hwd1 hwd2 hp1 hp2 hr hfo
    go_enter Try.func19, Try.ntmps19
    go_wp2_with (first
     | (go_at_call 40; refine (qrlayout_sized.calls k W H B d dk v s l 0 _ (Kd.C_below hB (hb0 _)) hd hz).mono ?_; rintro e w1 ⟨v2, rfl, hR, hb1⟩; obtain ⟨A, c, rfl, hc, hC⟩ := Kd.R_reads hR; clear hR; have hB1 : Kd.C Kd.bool w1 B dk.length dk := Kd.C_below (Kd.C_below hB (hb0 _)) hb1; have hw1b : Below w.heap.size w w1 := (hb0 _).trans (hb1.mono (by simp)); have hz1 : w.heap.size + 1 ≤ w1.heap.size := (by have := hb1.size; simpa using this); have m0 : w1.cell? ⟨w.heap.size, 0, none⟩ = some (.int .i64 W) := ((hb1.cell (p := ⟨w.heap.size, 0, none⟩) (by simp)).trans (by rw [World.cell?_alloc_at _ _ _ _ rfl]; rfl)); have m1 : w1.cell? ⟨w.heap.size, 1, none⟩ = some (.int .i64 H) := ((hb1.cell (p := ⟨w.heap.size, 1, none⟩) (by simp)).trans (by rw [World.cell?_alloc_at _ _ _ _ rfl]; rfl)); have m2 : w1.cell? ⟨w.heap.size, 2, none⟩ = some (.slice B dk.length d) := ((hb1.cell (p := ⟨w.heap.size, 2, none⟩) (by simp)).trans (by rw [World.cell?_alloc_at _ _ _ _ rfl]; rfl)); have hbw : ∀ o, Below w1.heap.size w1 (w1.alloc o) := (fun o => (Below.refl _ w1).alloc (Nat.le_refl _) _); have F0 : ∀ a b c' W', Below (w1.alloc (.cells #[a, b, c'] 69)).heap.size (w1.alloc (.cells #[a, b, c'] 69)) W' → W'.cell? ⟨w.heap.size, 0, none⟩ = some (.int .i64 W) := (fun a b c' W' h => (h.cell (p := ⟨w.heap.size, 0, none⟩) (by simp; omega)).trans (by rw [World.cell?_alloc_past _ _ _ (by omega)]; exact m0)); have F1 : ∀ a b c' W', Below (w1.alloc (.cells #[a, b, c'] 69)).heap.size (w1.alloc (.cells #[a, b, c'] 69)) W' → W'.cell? ⟨w.heap.size, 1, none⟩ = some (.int .i64 H) := (fun a b c' W' h => (h.cell (p := ⟨w.heap.size, 1, none⟩) (by simp; omega)).trans (by rw [World.cell?_alloc_past _ _ _ (by omega)]; exact m1)); have F2 : ∀ a b c' W', Below (w1.alloc (.cells #[a, b, c'] 69)).heap.size (w1.alloc (.cells #[a, b, c'] 69)) W' → W'.cell? ⟨w.heap.size, 2, none⟩ = some (.slice B dk.length d) := (fun a b c' W' h => (h.cell (p := ⟨w.heap.size, 2, none⟩) (by simp; omega)).trans (by rw [World.cell?_alloc_past _ _ _ (by omega)]; exact m2)); have Q0 : ∀ a b c' W', Below (w1.alloc (.cells #[a, b, c'] 69)).heap.size (w1.alloc (.cells #[a, b, c'] 69)) W' → W'.cell? ⟨w1.heap.size, 0, none⟩ = some a := (fun a b c' W' h => (h.cell (p := ⟨w1.heap.size, 0, none⟩) (by simp)).trans (by rw [World.cell?_alloc_at _ _ _ _ rfl]; rfl)); have Q1 : ∀ a b c' W', Below (w1.alloc (.cells #[a, b, c'] 69)).heap.size (w1.alloc (.cells #[a, b, c'] 69)) W' → W'.cell? ⟨w1.heap.size, 1, none⟩ = some b := (fun a b c' W' h => (h.cell (p := ⟨w1.heap.size, 1, none⟩) (by simp)).trans (by rw [World.cell?_alloc_at _ _ _ _ rfl]; rfl)); have Q2 : ∀ a b c' W', Below (w1.alloc (.cells #[a, b, c'] 69)).heap.size (w1.alloc (.cells #[a, b, c'] 69)) W' → W'.cell? ⟨w1.heap.size, 2, none⟩ = some c' := (fun a b c' W' h => (h.cell (p := ⟨w1.heap.size, 2, none⟩) (by simp)).trans (by rw [World.cell?_alloc_at _ _ _ _ rfl]; rfl)); have f0 := (fun o => cell_alloc_q o m0); have f1 := (fun o => cell_alloc_q o m1); have f2 := (fun o => cell_alloc_q o m2); clear hb1)
     | (go_at_call 53; refine (qrlayout_frame_confirm.calls k v s A c l W H B d dk 0 _ (Kd.C_below hC (hbw _)) hc (Kd.C_below hB1 (hbw _)) hd hcc).mono ?_; rintro e w2 ⟨rfl, hb2⟩; have n0 := F0 _ _ _ _ hb2; have n1 := F1 _ _ _ _ hb2; have n2 := F2 _ _ _ _ hb2; have k0 := Q0 _ _ _ _ hb2; have k1 := Q1 _ _ _ _ hb2; have k2 := Q2 _ _ _ _ hb2; have hwm : Below w.heap.size w w2 := hw1b.trans ((hbw _).mono hw1b.size |>.trans (hb2.mono (Nat.le_trans hw1b.size (hbw _).size))); have hCm := Kd.C_below (Kd.C_below hC (hbw _)) hb2; have hBm := Kd.C_below (Kd.C_below hB1 (hbw _)) hb2)
     | (go_at_call 46; refine (qrlayout_frame_format.calls k v s A c l p0 p1 _ hCm hc hfo).mono ?_; rintro e w3 ⟨v1, v2, rfl, hR1, hR2, hb3⟩; obtain ⟨A1, c1, rfl, hc1, hC1⟩ := Kd.R_reads hR1; obtain ⟨A2, c2, rfl, hc2, hC2⟩ := Kd.R_reads hR2; clear hR1 hR2; have hB3 := Kd.C_below hBm hb3; have hw3 : Below w.heap.size w w3 := (hwm).trans (hb3.mono (hwm).size); have hF3 := (hb2).trans (hb3.mono (hb2).size); clear hb3; have G0 : ∀ W', Below w3.heap.size w3 W' → W'.cell? ⟨w.heap.size, 0, none⟩ = some (.int .i64 W) := (fun W' h => F0 _ _ _ _ (hF3.trans (h.mono hF3.size))); have G1 : ∀ W', Below w3.heap.size w3 W' → W'.cell? ⟨w.heap.size, 1, none⟩ = some (.int .i64 H) := (fun W' h => F1 _ _ _ _ (hF3.trans (h.mono hF3.size))); have G2 : ∀ W', Below w3.heap.size w3 W' → W'.cell? ⟨w.heap.size, 2, none⟩ = some (.slice B dk.length d) := (fun W' h => F2 _ _ _ _ (hF3.trans (h.mono hF3.size))); have K0 : ∀ W', Below w3.heap.size w3 W' → W'.cell? ⟨w1.heap.size, 0, none⟩ = some (.int .i64 v) := (fun W' h => Q0 _ _ _ _ (hF3.trans (h.mono hF3.size))); have hq0 : Below w3.heap.size w3 w3 := Below.refl _ _; have g0 := G0 _ hq0; have g1 := G1 _ hq0; have g2 := G2 _ hq0; have g3 := K0 _ hq0))
    refine wp_loop_rounds 3 ?_
    rw [rounds_succ]
    have fin : ∀ x1 x2 x3 x4 W', ((x1, x2, x3, x4) : Int × Int × Int × Int) = (r1, r2, r3, r4) → Below w3.heap.size w3 W' → (Ending.returned (.tuple #[.int .i64 x1, .int .i64 x2, .int .i64 x3, .int .i64 x4]) = Ending.returned (.tuple #[.int .i64 r1, .int .i64 r2, .int .i64 r3, .int .i64 r4]) ∧ Below w.heap.size w W') := fun x1 x2 x3 x4 W' hx hW => ⟨by simp only [Prod.mk.injEq] at hx; obtain ⟨rfl, rfl, rfl, rfl⟩ := hx; rfl, hw3.trans (hW.mono hw3.size)⟩
    by_cases he1 : e1 = 0
    ·have b1 : (e1 == 0) = true := beq_iff_eq.mpr he1
     go_wp2_with (first
    | (go_at_call 55; refine (qrlayout_read.calls k W H B d dk A1 c1 p0 wd1 _ (Kd.C_below hB3 hq0) hd (Kd.C_below hC1 hq0) hc1 hwd1).mono ?_; rintro e w4 ⟨rfl, hb4⟩; have hq1 := hq0.trans (hb4.mono hq0.size); clear hb4)
    | (go_at_call 54; refine (bch_ParseFormat.calls k wd1 lv1 mk1 d1 e1 _ hp1).mono ?_; rintro e w5 ⟨rfl, hb5⟩; have hr1 := hq1.trans (hb5.mono hq1.size); clear hb5; have g0 := G0 _ hr1; have g1 := G1 _ hr1; have g2 := G2 _ hr1; have g3 := K0 _ hr1))
     rw [rounds_succ]
     by_cases he2 : e2 = 0
     ·have b2 : (e2 == 0) = true := beq_iff_eq.mpr he2
      by_cases hd1 : d1 < 0
      ·have b3 : decide (d1 < 0) = true := decide_eq_true hd1
       have hfz : (if d2 < 0 then ((0 : Int), (0 : Int), (0 : Int), (21 : Int)) else (v, lv2, mk2, 0)) = (r1, r2, r3, r4) := by rw [← hr]; simp [he1, he2, hd1]
       clear hr
       go_wp2_with (first
    | (go_at_call 55; refine (qrlayout_read.calls k W H B d dk A2 c2 p1 wd2 _ (Kd.C_below hB3 hr1) hd (Kd.C_below hC2 hr1) hc2 hwd2).mono ?_; rintro e w4 ⟨rfl, hb4⟩; have hq2 := hr1.trans (hb4.mono hr1.size); clear hb4)
    | (go_at_call 54; refine (bch_ParseFormat.calls k wd2 lv2 mk2 d2 e2 _ hp2).mono ?_; rintro e w5 ⟨rfl, hb5⟩; have hr2 := hq2.trans (hb5.mono hq2.size); clear hb5; have g0 := G0 _ hr2; have g1 := G1 _ hr2; have g2 := G2 _ hr2; have g3 := K0 _ hr2))
       rw [rounds_succ]
       go_wp2
       all_goals (try simp only [Exit.inBlock, Exit.then])
       all_goals (refine bodyPost_ret (results_list (rs := [.tmp 2, .tmp 3, .tmp 4, .tmp 5]) rfl (by simp) (.tmp (.tmp (.tmp (.tmp .nil))))) rfl ?_; refine fin _ _ _ _ _ ?_ (by assumption); rw [← hfz]; first | rw [if_pos (of_decide_eq_true (by assumption))] | rw [if_neg (of_decide_eq_false (by assumption))] | rw [if_pos (by omega)] | rw [if_neg (by omega)])
      ·have b3 : decide (d1 < 0) = false := decide_eq_false hd1
       by_cases hd2 : d2 < d1
       ·have b4 : decide (d2 < d1) = true := decide_eq_true hd2
        have hfz : (if d2 < 0 then ((0 : Int), (0 : Int), (0 : Int), (21 : Int)) else (v, lv2, mk2, 0)) = (r1, r2, r3, r4) := by rw [← hr]; simp [he1, he2, hd1, hd2]
        clear hr
        go_wp2_with (first
    | (go_at_call 55; refine (qrlayout_read.calls k W H B d dk A2 c2 p1 wd2 _ (Kd.C_below hB3 hr1) hd (Kd.C_below hC2 hr1) hc2 hwd2).mono ?_; rintro e w4 ⟨rfl, hb4⟩; have hq2 := hr1.trans (hb4.mono hr1.size); clear hb4)
    | (go_at_call 54; refine (bch_ParseFormat.calls k wd2 lv2 mk2 d2 e2 _ hp2).mono ?_; rintro e w5 ⟨rfl, hb5⟩; have hr2 := hq2.trans (hb5.mono hq2.size); clear hb5; have g0 := G0 _ hr2; have g1 := G1 _ hr2; have g2 := G2 _ hr2; have g3 := K0 _ hr2))
        rw [rounds_succ]
        go_wp2
        all_goals (try simp only [Exit.inBlock, Exit.then])
        all_goals (refine bodyPost_ret (results_list (rs := [.tmp 2, .tmp 3, .tmp 4, .tmp 5]) rfl (by simp) (.tmp (.tmp (.tmp (.tmp .nil))))) rfl ?_; refine fin _ _ _ _ _ ?_ (by assumption); rw [← hfz]; first | rw [if_pos (of_decide_eq_true (by assumption))] | rw [if_neg (of_decide_eq_false (by assumption))] | rw [if_pos (by omega)] | rw [if_neg (by omega)])
       ·have b4 : decide (d2 < d1) = false := decide_eq_false hd2
        have hfz : (if d1 < 0 then ((0 : Int), (0 : Int), (0 : Int), (21 : Int)) else (v, lv1, mk1, 0)) = (r1, r2, r3, r4) := by rw [← hr]; simp [he1, he2, hd1, hd2]
        clear hr
        go_wp2_with (first
    | (go_at_call 55; refine (qrlayout_read.calls k W H B d dk A2 c2 p1 wd2 _ (Kd.C_below hB3 hr1) hd (Kd.C_below hC2 hr1) hc2 hwd2).mono ?_; rintro e w4 ⟨rfl, hb4⟩; have hq2 := hr1.trans (hb4.mono hr1.size); clear hb4)
    | (go_at_call 54; refine (bch_ParseFormat.calls k wd2 lv2 mk2 d2 e2 _ hp2).mono ?_; rintro e w5 ⟨rfl, hb5⟩; have hr2 := hq2.trans (hb5.mono hq2.size); clear hb5; have g0 := G0 _ hr2; have g1 := G1 _ hr2; have g2 := G2 _ hr2; have g3 := K0 _ hr2))
        rw [rounds_succ]
        go_wp2
        all_goals (try simp only [Exit.inBlock, Exit.then])
        all_goals (refine bodyPost_ret (results_list (rs := [.tmp 2, .tmp 3, .tmp 4, .tmp 5]) rfl (by simp) (.tmp (.tmp (.tmp (.tmp .nil))))) rfl ?_; refine fin _ _ _ _ _ ?_ (by assumption); rw [← hfz]; first | rw [if_pos (of_decide_eq_true (by assumption))] | rw [if_neg (of_decide_eq_false (by assumption))] | rw [if_pos (by omega)] | rw [if_neg (by omega)])
     ·have b2 : (e2 == 0) = false := beq_eq_false_iff_ne.mpr he2
      have hfz : (if d1 < 0 then ((0 : Int), (0 : Int), (0 : Int), (21 : Int)) else (v, lv1, mk1, 0)) = (r1, r2, r3, r4) := by rw [← hr]; simp [he1, he2]
      clear hr
      go_wp2_with (first
    | (go_at_call 55; refine (qrlayout_read.calls k W H B d dk A2 c2 p1 wd2 _ (Kd.C_below hB3 hr1) hd (Kd.C_below hC2 hr1) hc2 hwd2).mono ?_; rintro e w4 ⟨rfl, hb4⟩; have hq2 := hr1.trans (hb4.mono hr1.size); clear hb4)
    | (go_at_call 54; refine (bch_ParseFormat.calls k wd2 lv2 mk2 d2 e2 _ hp2).mono ?_; rintro e w5 ⟨rfl, hb5⟩; have hr2 := hq2.trans (hb5.mono hq2.size); clear hb5; have g0 := G0 _ hr2; have g1 := G1 _ hr2; have g2 := G2 _ hr2; have g3 := K0 _ hr2))
      rw [rounds_succ]
      go_wp2
      all_goals (try simp only [Exit.inBlock, Exit.then])
      all_goals (refine bodyPost_ret (results_list (rs := [.tmp 2, .tmp 3, .tmp 4, .tmp 5]) rfl (by simp) (.tmp (.tmp (.tmp (.tmp .nil))))) rfl ?_; refine fin _ _ _ _ _ ?_ (by assumption); rw [← hfz]; first | rw [if_pos (of_decide_eq_true (by assumption))] | rw [if_neg (of_decide_eq_false (by assumption))] | rw [if_pos (by omega)] | rw [if_neg (by omega)])
    ·have b1 : (e1 == 0) = false := beq_eq_false_iff_ne.mpr he1
     go_wp2_with (first
    | (go_at_call 55; refine (qrlayout_read.calls k W H B d dk A1 c1 p0 wd1 _ (Kd.C_below hB3 hq0) hd (Kd.C_below hC1 hq0) hc1 hwd1).mono ?_; rintro e w4 ⟨rfl, hb4⟩; have hq1 := hq0.trans (hb4.mono hq0.size); clear hb4)
    | (go_at_call 54; refine (bch_ParseFormat.calls k wd1 lv1 mk1 d1 e1 _ hp1).mono ?_; rintro e w5 ⟨rfl, hb5⟩; have hr1 := hq1.trans (hb5.mono hq1.size); clear hb5; have g0 := G0 _ hr1; have g1 := G1 _ hr1; have g2 := G2 _ hr1; have g3 := K0 _ hr1))
     rw [rounds_succ]
     by_cases he2 : e2 = 0
     ·have b2 : (e2 == 0) = true := beq_iff_eq.mpr he2
      have hfz : (if d2 < 0 then ((0 : Int), (0 : Int), (0 : Int), (21 : Int)) else (v, lv2, mk2, 0)) = (r1, r2, r3, r4) := by rw [← hr]; simp [he1, he2]
      clear hr
      go_wp2_with (first
    | (go_at_call 55; refine (qrlayout_read.calls k W H B d dk A2 c2 p1 wd2 _ (Kd.C_below hB3 hr1) hd (Kd.C_below hC2 hr1) hc2 hwd2).mono ?_; rintro e w4 ⟨rfl, hb4⟩; have hq2 := hr1.trans (hb4.mono hr1.size); clear hb4)
    | (go_at_call 54; refine (bch_ParseFormat.calls k wd2 lv2 mk2 d2 e2 _ hp2).mono ?_; rintro e w5 ⟨rfl, hb5⟩; have hr2 := hq2.trans (hb5.mono hq2.size); clear hb5; have g0 := G0 _ hr2; have g1 := G1 _ hr2; have g2 := G2 _ hr2; have g3 := K0 _ hr2))
      rw [rounds_succ]
      go_wp2
      all_goals (try simp only [Exit.inBlock, Exit.then])
      all_goals (refine bodyPost_ret (results_list (rs := [.tmp 2, .tmp 3, .tmp 4, .tmp 5]) rfl (by simp) (.tmp (.tmp (.tmp (.tmp .nil))))) rfl ?_; refine fin _ _ _ _ _ ?_ (by assumption); rw [← hfz]; first | rw [if_pos (of_decide_eq_true (by assumption))] | rw [if_neg (of_decide_eq_false (by assumption))] | rw [if_pos (by omega)] | rw [if_neg (by omega)])
     ·have b2 : (e2 == 0) = false := beq_eq_false_iff_ne.mpr he2
      have hfz : (if (-1 : Int) < 0 then ((0 : Int), (0 : Int), (0 : Int), (21 : Int)) else (v, 0, 0, 0)) = (r1, r2, r3, r4) := by rw [← hr]; simp [he1, he2]
      clear hr
      go_wp2_with (first
    | (go_at_call 55; refine (qrlayout_read.calls k W H B d dk A2 c2 p1 wd2 _ (Kd.C_below hB3 hr1) hd (Kd.C_below hC2 hr1) hc2 hwd2).mono ?_; rintro e w4 ⟨rfl, hb4⟩; have hq2 := hr1.trans (hb4.mono hr1.size); clear hb4)
    | (go_at_call 54; refine (bch_ParseFormat.calls k wd2 lv2 mk2 d2 e2 _ hp2).mono ?_; rintro e w5 ⟨rfl, hb5⟩; have hr2 := hq2.trans (hb5.mono hq2.size); clear hb5; have g0 := G0 _ hr2; have g1 := G1 _ hr2; have g2 := G2 _ hr2; have g3 := K0 _ hr2))
      rw [rounds_succ]
      go_wp2
      all_goals (try simp only [Exit.inBlock, Exit.then])
      all_goals (refine bodyPost_ret (results_list (rs := [.tmp 2, .tmp 3, .tmp 4, .tmp 5]) rfl (by simp) (.tmp (.tmp (.tmp (.tmp .nil))))) rfl ?_; refine fin _ _ _ _ _ ?_ (by assumption); rw [← hfz]; first | rw [if_pos (of_decide_eq_true (by assumption))] | rw [if_neg (of_decide_eq_false (by assumption))] | rw [if_pos (by omega)] | rw [if_neg (by omega)])
   ·rw [if_neg hc0] at h
    have x1 : (cc != 0) = true := bne_iff_ne.mpr hc0
    simp only [Option.some.injEq, Prod.mk.injEq] at h
    obtain ⟨rfl, rfl, rfl, rfl⟩ := h
    go_enter Try.func19, Try.ntmps19
    go_wp2_with (first
     | (go_at_call 40; refine (qrlayout_sized.calls k W H B d dk v s l 0 _ (Kd.C_below hB (hb0 _)) hd hz).mono ?_; rintro e w1 ⟨v2, rfl, hR, hb1⟩; obtain ⟨A, c, rfl, hc, hC⟩ := Kd.R_reads hR; clear hR; have hB1 : Kd.C Kd.bool w1 B dk.length dk := Kd.C_below (Kd.C_below hB (hb0 _)) hb1; have hw1b : Below w.heap.size w w1 := (hb0 _).trans (hb1.mono (by simp)); have hz1 : w.heap.size + 1 ≤ w1.heap.size := (by have := hb1.size; simpa using this); have m0 : w1.cell? ⟨w.heap.size, 0, none⟩ = some (.int .i64 W) := ((hb1.cell (p := ⟨w.heap.size, 0, none⟩) (by simp)).trans (by rw [World.cell?_alloc_at _ _ _ _ rfl]; rfl)); have m1 : w1.cell? ⟨w.heap.size, 1, none⟩ = some (.int .i64 H) := ((hb1.cell (p := ⟨w.heap.size, 1, none⟩) (by simp)).trans (by rw [World.cell?_alloc_at _ _ _ _ rfl]; rfl)); have m2 : w1.cell? ⟨w.heap.size, 2, none⟩ = some (.slice B dk.length d) := ((hb1.cell (p := ⟨w.heap.size, 2, none⟩) (by simp)).trans (by rw [World.cell?_alloc_at _ _ _ _ rfl]; rfl)); have hbw : ∀ o, Below w1.heap.size w1 (w1.alloc o) := (fun o => (Below.refl _ w1).alloc (Nat.le_refl _) _); have F0 : ∀ a b c' W', Below (w1.alloc (.cells #[a, b, c'] 69)).heap.size (w1.alloc (.cells #[a, b, c'] 69)) W' → W'.cell? ⟨w.heap.size, 0, none⟩ = some (.int .i64 W) := (fun a b c' W' h => (h.cell (p := ⟨w.heap.size, 0, none⟩) (by simp; omega)).trans (by rw [World.cell?_alloc_past _ _ _ (by omega)]; exact m0)); have F1 : ∀ a b c' W', Below (w1.alloc (.cells #[a, b, c'] 69)).heap.size (w1.alloc (.cells #[a, b, c'] 69)) W' → W'.cell? ⟨w.heap.size, 1, none⟩ = some (.int .i64 H) := (fun a b c' W' h => (h.cell (p := ⟨w.heap.size, 1, none⟩) (by simp; omega)).trans (by rw [World.cell?_alloc_past _ _ _ (by omega)]; exact m1)); have F2 : ∀ a b c' W', Below (w1.alloc (.cells #[a, b, c'] 69)).heap.size (w1.alloc (.cells #[a, b, c'] 69)) W' → W'.cell? ⟨w.heap.size, 2, none⟩ = some (.slice B dk.length d) := (fun a b c' W' h => (h.cell (p := ⟨w.heap.size, 2, none⟩) (by simp; omega)).trans (by rw [World.cell?_alloc_past _ _ _ (by omega)]; exact m2)); have Q0 : ∀ a b c' W', Below (w1.alloc (.cells #[a, b, c'] 69)).heap.size (w1.alloc (.cells #[a, b, c'] 69)) W' → W'.cell? ⟨w1.heap.size, 0, none⟩ = some a := (fun a b c' W' h => (h.cell (p := ⟨w1.heap.size, 0, none⟩) (by simp)).trans (by rw [World.cell?_alloc_at _ _ _ _ rfl]; rfl)); have Q1 : ∀ a b c' W', Below (w1.alloc (.cells #[a, b, c'] 69)).heap.size (w1.alloc (.cells #[a, b, c'] 69)) W' → W'.cell? ⟨w1.heap.size, 1, none⟩ = some b := (fun a b c' W' h => (h.cell (p := ⟨w1.heap.size, 1, none⟩) (by simp)).trans (by rw [World.cell?_alloc_at _ _ _ _ rfl]; rfl)); have Q2 : ∀ a b c' W', Below (w1.alloc (.cells #[a, b, c'] 69)).heap.size (w1.alloc (.cells #[a, b, c'] 69)) W' → W'.cell? ⟨w1.heap.size, 2, none⟩ = some c' := (fun a b c' W' h => (h.cell (p := ⟨w1.heap.size, 2, none⟩) (by simp)).trans (by rw [World.cell?_alloc_at _ _ _ _ rfl]; rfl)); have f0 := (fun o => cell_alloc_q o m0); have f1 := (fun o => cell_alloc_q o m1); have f2 := (fun o => cell_alloc_q o m2); clear hb1)
     | (go_at_call 53; refine (qrlayout_frame_confirm.calls k v s A c l W H B d dk cc _ (Kd.C_below hC (hbw _)) hc (Kd.C_below hB1 (hbw _)) hd hcc).mono ?_; rintro e w2 ⟨rfl, hb2⟩; have n0 := F0 _ _ _ _ hb2; have n1 := F1 _ _ _ _ hb2; have n2 := F2 _ _ _ _ hb2; have k0 := Q0 _ _ _ _ hb2; have k1 := Q1 _ _ _ _ hb2; have k2 := Q2 _ _ _ _ hb2; have hwm : Below w.heap.size w w2 := hw1b.trans ((hbw _).mono hw1b.size |>.trans (hb2.mono (Nat.le_trans hw1b.size (hbw _).size))); have hCm := Kd.C_below (Kd.C_below hC (hbw _)) hb2; have hBm := Kd.C_below (Kd.C_below hB1 (hbw _)) hb2))
    all_goals (try simp only [Exit.inBlock, Exit.then])
    refine bodyPost_ret (results_list (rs := [.tmp 2, .tmp 3, .tmp 4, .tmp 5]) rfl (by simp) (.tmp (.tmp (.tmp (.tmp .nil))))) rfl ?_
    exact ⟨rfl, hwm⟩
  ·rw [if_neg hv7] at h
   have v7 : decide (7 ≤ v) = false := decide_eq_false hv7
   simp only [rdRest, rdStep, Option.bind_eq_some_iff, Option.some.injEq] at h
   obtain ⟨⟨p0, p1⟩, hfo, b1, ⟨wd1, hwd1, ⟨lv1, mk1, d1, e1⟩, hp1, rfl⟩, b2, ⟨wd2, hwd2, ⟨lv2, mk2, d2, e2⟩, hp2, rfl⟩, hr⟩ := h
   dsimp only at hwd1 hwd2 hp1 hp2 hr hfo
   go_enter Try.func19, Try.ntmps19
   go_wp2_with (first
    | (go_at_call 40; refine (qrlayout_sized.calls k W H B d dk v s l 0 _ (Kd.C_below hB (hb0 _)) hd hz).mono ?_; rintro e w1 ⟨v2, rfl, hR, hb1⟩; obtain ⟨A, c, rfl, hc, hC⟩ := Kd.R_reads hR; clear hR; have hB1 : Kd.C Kd.bool w1 B dk.length dk := Kd.C_below (Kd.C_below hB (hb0 _)) hb1; have hw1b : Below w.heap.size w w1 := (hb0 _).trans (hb1.mono (by simp)); have hz1 : w.heap.size + 1 ≤ w1.heap.size := (by have := hb1.size; simpa using this); have m0 : w1.cell? ⟨w.heap.size, 0, none⟩ = some (.int .i64 W) := ((hb1.cell (p := ⟨w.heap.size, 0, none⟩) (by simp)).trans (by rw [World.cell?_alloc_at _ _ _ _ rfl]; rfl)); have m1 : w1.cell? ⟨w.heap.size, 1, none⟩ = some (.int .i64 H) := ((hb1.cell (p := ⟨w.heap.size, 1, none⟩) (by simp)).trans (by rw [World.cell?_alloc_at _ _ _ _ rfl]; rfl)); have m2 : w1.cell? ⟨w.heap.size, 2, none⟩ = some (.slice B dk.length d) := ((hb1.cell (p := ⟨w.heap.size, 2, none⟩) (by simp)).trans (by rw [World.cell?_alloc_at _ _ _ _ rfl]; rfl)); have hbw : ∀ o, Below w1.heap.size w1 (w1.alloc o) := (fun o => (Below.refl _ w1).alloc (Nat.le_refl _) _); have F0 : ∀ a b c' W', Below (w1.alloc (.cells #[a, b, c'] 69)).heap.size (w1.alloc (.cells #[a, b, c'] 69)) W' → W'.cell? ⟨w.heap.size, 0, none⟩ = some (.int .i64 W) := (fun a b c' W' h => (h.cell (p := ⟨w.heap.size, 0, none⟩) (by simp; omega)).trans (by rw [World.cell?_alloc_past _ _ _ (by omega)]; exact m0)); have F1 : ∀ a b c' W', Below (w1.alloc (.cells #[a, b, c'] 69)).heap.size (w1.alloc (.cells #[a, b, c'] 69)) W' → W'.cell? ⟨w.heap.size, 1, none⟩ = some (.int .i64 H) := (fun a b c' W' h => (h.cell (p := ⟨w.heap.size, 1, none⟩) (by simp; omega)).trans (by rw [World.cell?_alloc_past _ _ _ (by omega)]; exact m1)); have F2 : ∀ a b c' W', Below (w1.alloc (.cells #[a, b, c'] 69)).heap.size (w1.alloc (.cells #[a, b, c'] 69)) W' → W'.cell? ⟨w.heap.size, 2, none⟩ = some (.slice B dk.length d) := (fun a b c' W' h => (h.cell (p := ⟨w.heap.size, 2, none⟩) (by simp; omega)).trans (by rw [World.cell?_alloc_past _ _ _ (by omega)]; exact m2)); have Q0 : ∀ a b c' W', Below (w1.alloc (.cells #[a, b, c'] 69)).heap.size (w1.alloc (.cells #[a, b, c'] 69)) W' → W'.cell? ⟨w1.heap.size, 0, none⟩ = some a := (fun a b c' W' h => (h.cell (p := ⟨w1.heap.size, 0, none⟩) (by simp)).trans (by rw [World.cell?_alloc_at _ _ _ _ rfl]; rfl)); have Q1 : ∀ a b c' W', Below (w1.alloc (.cells #[a, b, c'] 69)).heap.size (w1.alloc (.cells #[a, b, c'] 69)) W' → W'.cell? ⟨w1.heap.size, 1, none⟩ = some b := (fun a b c' W' h => (h.cell (p := ⟨w1.heap.size, 1, none⟩) (by simp)).trans (by rw [World.cell?_alloc_at _ _ _ _ rfl]; rfl)); have Q2 : ∀ a b c' W', Below (w1.alloc (.cells #[a, b, c'] 69)).heap.size (w1.alloc (.cells #[a, b, c'] 69)) W' → W'.cell? ⟨w1.heap.size, 2, none⟩ = some c' := (fun a b c' W' h => (h.cell (p := ⟨w1.heap.size, 2, none⟩) (by simp)).trans (by rw [World.cell?_alloc_at _ _ _ _ rfl]; rfl)); have f0 := (fun o => cell_alloc_q o m0); have f1 := (fun o => cell_alloc_q o m1); have f2 := (fun o => cell_alloc_q o m2); clear hb1)
    | (go_at_call 46; refine (qrlayout_frame_format.calls k v s A c l p0 p1 _ (Kd.C_below hC (hbw _)) hc hfo).mono ?_; rintro e w3 ⟨v1, v2, rfl, hR1, hR2, hb3⟩; obtain ⟨A1, c1, rfl, hc1, hC1⟩ := Kd.R_reads hR1; obtain ⟨A2, c2, rfl, hc2, hC2⟩ := Kd.R_reads hR2; clear hR1 hR2; have hB3 := Kd.C_below (Kd.C_below hB1 (hbw (.cells #[.int .i64 v, .int .i64 s, .slice A l.length c] 69))) hb3; have hw3 : Below w.heap.size w w3 := (hw1b.trans ((hbw (.cells #[.int .i64 v, .int .i64 s, .slice A l.length c] 69)).mono hw1b.size)).trans (hb3.mono (hw1b.trans ((hbw (.cells #[.int .i64 v, .int .i64 s, .slice A l.length c] 69)).mono hw1b.size)).size); have hF3 := (Below.refl (w1.alloc (.cells #[.int .i64 v, .int .i64 s, .slice A l.length c] 69)).heap.size (w1.alloc (.cells #[.int .i64 v, .int .i64 s, .slice A l.length c] 69))).trans (hb3.mono (Below.refl (w1.alloc (.cells #[.int .i64 v, .int .i64 s, .slice A l.length c] 69)).heap.size (w1.alloc (.cells #[.int .i64 v, .int .i64 s, .slice A l.length c] 69))).size); clear hb3; have G0 : ∀ W', Below w3.heap.size w3 W' → W'.cell? ⟨w.heap.size, 0, none⟩ = some (.int .i64 W) := (fun W' h => F0 _ _ _ _ (hF3.trans (h.mono hF3.size))); have G1 : ∀ W', Below w3.heap.size w3 W' → W'.cell? ⟨w.heap.size, 1, none⟩ = some (.int .i64 H) := (fun W' h => F1 _ _ _ _ (hF3.trans (h.mono hF3.size))); have G2 : ∀ W', Below w3.heap.size w3 W' → W'.cell? ⟨w.heap.size, 2, none⟩ = some (.slice B dk.length d) := (fun W' h => F2 _ _ _ _ (hF3.trans (h.mono hF3.size))); have K0 : ∀ W', Below w3.heap.size w3 W' → W'.cell? ⟨w1.heap.size, 0, none⟩ = some (.int .i64 v) := (fun W' h => Q0 _ _ _ _ (hF3.trans (h.mono hF3.size))); have hq0 : Below w3.heap.size w3 w3 := Below.refl _ _; have g0 := G0 _ hq0; have g1 := G1 _ hq0; have g2 := G2 _ hq0; have g3 := K0 _ hq0))
   refine wp_loop_rounds 3 ?_
   rw [rounds_succ]
   have fin : ∀ x1 x2 x3 x4 W', ((x1, x2, x3, x4) : Int × Int × Int × Int) = (r1, r2, r3, r4) → Below w3.heap.size w3 W' → (Ending.returned (.tuple #[.int .i64 x1, .int .i64 x2, .int .i64 x3, .int .i64 x4]) = Ending.returned (.tuple #[.int .i64 r1, .int .i64 r2, .int .i64 r3, .int .i64 r4]) ∧ Below w.heap.size w W') := fun x1 x2 x3 x4 W' hx hW => ⟨by simp only [Prod.mk.injEq] at hx; obtain ⟨rfl, rfl, rfl, rfl⟩ := hx; rfl, hw3.trans (hW.mono hw3.size)⟩
   by_cases he1 : e1 = 0
   ·have b1 : (e1 == 0) = true := beq_iff_eq.mpr he1
    go_wp2_with (first
    | (go_at_call 55; refine (qrlayout_read.calls k W H B d dk A1 c1 p0 wd1 _ (Kd.C_below hB3 hq0) hd (Kd.C_below hC1 hq0) hc1 hwd1).mono ?_; rintro e w4 ⟨rfl, hb4⟩; have hq1 := hq0.trans (hb4.mono hq0.size); clear hb4)
    | (go_at_call 54; refine (bch_ParseFormat.calls k wd1 lv1 mk1 d1 e1 _ hp1).mono ?_; rintro e w5 ⟨rfl, hb5⟩; have hr1 := hq1.trans (hb5.mono hq1.size); clear hb5; have g0 := G0 _ hr1; have g1 := G1 _ hr1; have g2 := G2 _ hr1; have g3 := K0 _ hr1))
    rw [rounds_succ]
    by_cases he2 : e2 = 0
    ·have b2 : (e2 == 0) = true := beq_iff_eq.mpr he2
     by_cases hd1 : d1 < 0
     ·have b3 : decide (d1 < 0) = true := decide_eq_true hd1
      have hfz : (if d2 < 0 then ((0 : Int), (0 : Int), (0 : Int), (21 : Int)) else (v, lv2, mk2, 0)) = (r1, r2, r3, r4) := by rw [← hr]; simp [he1, he2, hd1]
      clear hr
      go_wp2_with (first
    | (go_at_call 55; refine (qrlayout_read.calls k W H B d dk A2 c2 p1 wd2 _ (Kd.C_below hB3 hr1) hd (Kd.C_below hC2 hr1) hc2 hwd2).mono ?_; rintro e w4 ⟨rfl, hb4⟩; have hq2 := hr1.trans (hb4.mono hr1.size); clear hb4)
    | (go_at_call 54; refine (bch_ParseFormat.calls k wd2 lv2 mk2 d2 e2 _ hp2).mono ?_; rintro e w5 ⟨rfl, hb5⟩; have hr2 := hq2.trans (hb5.mono hq2.size); clear hb5; have g0 := G0 _ hr2; have g1 := G1 _ hr2; have g2 := G2 _ hr2; have g3 := K0 _ hr2))
      rw [rounds_succ]
      go_wp2
      all_goals (try simp only [Exit.inBlock, Exit.then])
      all_goals (refine bodyPost_ret (results_list (rs := [.tmp 2, .tmp 3, .tmp 4, .tmp 5]) rfl (by simp) (.tmp (.tmp (.tmp (.tmp .nil))))) rfl ?_; refine fin _ _ _ _ _ ?_ (by assumption); rw [← hfz]; first | rw [if_pos (of_decide_eq_true (by assumption))] | rw [if_neg (of_decide_eq_false (by assumption))] | rw [if_pos (by omega)] | rw [if_neg (by omega)])
     ·have b3 : decide (d1 < 0) = false := decide_eq_false hd1
      by_cases hd2 : d2 < d1
      ·have b4 : decide (d2 < d1) = true := decide_eq_true hd2
       have hfz : (if d2 < 0 then ((0 : Int), (0 : Int), (0 : Int), (21 : Int)) else (v, lv2, mk2, 0)) = (r1, r2, r3, r4) := by rw [← hr]; simp [he1, he2, hd1, hd2]
       clear hr
       go_wp2_with (first
    | (go_at_call 55; refine (qrlayout_read.calls k W H B d dk A2 c2 p1 wd2 _ (Kd.C_below hB3 hr1) hd (Kd.C_below hC2 hr1) hc2 hwd2).mono ?_; rintro e w4 ⟨rfl, hb4⟩; have hq2 := hr1.trans (hb4.mono hr1.size); clear hb4)
    | (go_at_call 54; refine (bch_ParseFormat.calls k wd2 lv2 mk2 d2 e2 _ hp2).mono ?_; rintro e w5 ⟨rfl, hb5⟩; have hr2 := hq2.trans (hb5.mono hq2.size); clear hb5; have g0 := G0 _ hr2; have g1 := G1 _ hr2; have g2 := G2 _ hr2; have g3 := K0 _ hr2))
       rw [rounds_succ]
       go_wp2
       all_goals (try simp only [Exit.inBlock, Exit.then])
       all_goals (refine bodyPost_ret (results_list (rs := [.tmp 2, .tmp 3, .tmp 4, .tmp 5]) rfl (by simp) (.tmp (.tmp (.tmp (.tmp .nil))))) rfl ?_; refine fin _ _ _ _ _ ?_ (by assumption); rw [← hfz]; first | rw [if_pos (of_decide_eq_true (by assumption))] | rw [if_neg (of_decide_eq_false (by assumption))] | rw [if_pos (by omega)] | rw [if_neg (by omega)])
      ·have b4 : decide (d2 < d1) = false := decide_eq_false hd2
       have hfz : (if d1 < 0 then ((0 : Int), (0 : Int), (0 : Int), (21 : Int)) else (v, lv1, mk1, 0)) = (r1, r2, r3, r4) := by rw [← hr]; simp [he1, he2, hd1, hd2]
       clear hr
       go_wp2_with (first
    | (go_at_call 55; refine (qrlayout_read.calls k W H B d dk A2 c2 p1 wd2 _ (Kd.C_below hB3 hr1) hd (Kd.C_below hC2 hr1) hc2 hwd2).mono ?_; rintro e w4 ⟨rfl, hb4⟩; have hq2 := hr1.trans (hb4.mono hr1.size); clear hb4)
    | (go_at_call 54; refine (bch_ParseFormat.calls k wd2 lv2 mk2 d2 e2 _ hp2).mono ?_; rintro e w5 ⟨rfl, hb5⟩; have hr2 := hq2.trans (hb5.mono hq2.size); clear hb5; have g0 := G0 _ hr2; have g1 := G1 _ hr2; have g2 := G2 _ hr2; have g3 := K0 _ hr2))
       rw [rounds_succ]
       go_wp2
       all_goals (try simp only [Exit.inBlock, Exit.then])
       all_goals (refine bodyPost_ret (results_list (rs := [.tmp 2, .tmp 3, .tmp 4, .tmp 5]) rfl (by simp) (.tmp (.tmp (.tmp (.tmp .nil))))) rfl ?_; refine fin _ _ _ _ _ ?_ (by assumption); rw [← hfz]; first | rw [if_pos (of_decide_eq_true (by assumption))] | rw [if_neg (of_decide_eq_false (by assumption))] | rw [if_pos (by omega)] | rw [if_neg (by omega)])
    ·have b2 : (e2 == 0) = false := beq_eq_false_iff_ne.mpr he2
     have hfz : (if d1 < 0 then ((0 : Int), (0 : Int), (0 : Int), (21 : Int)) else (v, lv1, mk1, 0)) = (r1, r2, r3, r4) := by rw [← hr]; simp [he1, he2]
     clear hr
     go_wp2_with (first
    | (go_at_call 55; refine (qrlayout_read.calls k W H B d dk A2 c2 p1 wd2 _ (Kd.C_below hB3 hr1) hd (Kd.C_below hC2 hr1) hc2 hwd2).mono ?_; rintro e w4 ⟨rfl, hb4⟩; have hq2 := hr1.trans (hb4.mono hr1.size); clear hb4)
    | (go_at_call 54; refine (bch_ParseFormat.calls k wd2 lv2 mk2 d2 e2 _ hp2).mono ?_; rintro e w5 ⟨rfl, hb5⟩; have hr2 := hq2.trans (hb5.mono hq2.size); clear hb5; have g0 := G0 _ hr2; have g1 := G1 _ hr2; have g2 := G2 _ hr2; have g3 := K0 _ hr2))
     rw [rounds_succ]
     go_wp2
     all_goals (try simp only [Exit.inBlock, Exit.then])
     all_goals (refine bodyPost_ret (results_list (rs := [.tmp 2, .tmp 3, .tmp 4, .tmp 5]) rfl (by simp) (.tmp (.tmp (.tmp (.tmp .nil))))) rfl ?_; refine fin _ _ _ _ _ ?_ (by assumption); rw [← hfz]; first | rw [if_pos (of_decide_eq_true (by assumption))] | rw [if_neg (of_decide_eq_false (by assumption))] | rw [if_pos (by omega)] | rw [if_neg (by omega)])
   ·have b1 : (e1 == 0) = false := beq_eq_false_iff_ne.mpr he1
    go_wp2_with (first
    | (go_at_call 55; refine (qrlayout_read.calls k W H B d dk A1 c1 p0 wd1 _ (Kd.C_below hB3 hq0) hd (Kd.C_below hC1 hq0) hc1 hwd1).mono ?_; rintro e w4 ⟨rfl, hb4⟩; have hq1 := hq0.trans (hb4.mono hq0.size); clear hb4)
    | (go_at_call 54; refine (bch_ParseFormat.calls k wd1 lv1 mk1 d1 e1 _ hp1).mono ?_; rintro e w5 ⟨rfl, hb5⟩; have hr1 := hq1.trans (hb5.mono hq1.size); clear hb5; have g0 := G0 _ hr1; have g1 := G1 _ hr1; have g2 := G2 _ hr1; have g3 := K0 _ hr1))
    rw [rounds_succ]
    by_cases he2 : e2 = 0
    ·have b2 : (e2 == 0) = true := beq_iff_eq.mpr he2
     have hfz : (if d2 < 0 then ((0 : Int), (0 : Int), (0 : Int), (21 : Int)) else (v, lv2, mk2, 0)) = (r1, r2, r3, r4) := by rw [← hr]; simp [he1, he2]
     clear hr
     go_wp2_with (first
    | (go_at_call 55; refine (qrlayout_read.calls k W H B d dk A2 c2 p1 wd2 _ (Kd.C_below hB3 hr1) hd (Kd.C_below hC2 hr1) hc2 hwd2).mono ?_; rintro e w4 ⟨rfl, hb4⟩; have hq2 := hr1.trans (hb4.mono hr1.size); clear hb4)
    | (go_at_call 54; refine (bch_ParseFormat.calls k wd2 lv2 mk2 d2 e2 _ hp2).mono ?_; rintro e w5 ⟨rfl, hb5⟩; have hr2 := hq2.trans (hb5.mono hq2.size); clear hb5; have g0 := G0 _ hr2; have g1 := G1 _ hr2; have g2 := G2 _ hr2; have g3 := K0 _ hr2))
     rw [rounds_succ]
     go_wp2
     all_goals (try simp only [Exit.inBlock, Exit.then])
     all_goals (refine bodyPost_ret (results_list (rs := [.tmp 2, .tmp 3, .tmp 4, .tmp 5]) rfl (by simp) (.tmp (.tmp (.tmp (.tmp .nil))))) rfl ?_; refine fin _ _ _ _ _ ?_ (by assumption); rw [← hfz]; first | rw [if_pos (of_decide_eq_true (by assumption))] | rw [if_neg (of_decide_eq_false (by assumption))] | rw [if_pos (by omega)] | rw [if_neg (by omega)])
    ·have b2 : (e2 == 0) = false := beq_eq_false_iff_ne.mpr he2
     have hfz : (if (-1 : Int) < 0 then ((0 : Int), (0 : Int), (0 : Int), (21 : Int)) else (v, 0, 0, 0)) = (r1, r2, r3, r4) := by rw [← hr]; simp [he1, he2]
     clear hr
     go_wp2_with (first
    | (go_at_call 55; refine (qrlayout_read.calls k W H B d dk A2 c2 p1 wd2 _ (Kd.C_below hB3 hr1) hd (Kd.C_below hC2 hr1) hc2 hwd2).mono ?_; rintro e w4 ⟨rfl, hb4⟩; have hq2 := hr1.trans (hb4.mono hr1.size); clear hb4)
    | (go_at_call 54; refine (bch_ParseFormat.calls k wd2 lv2 mk2 d2 e2 _ hp2).mono ?_; rintro e w5 ⟨rfl, hb5⟩; have hr2 := hq2.trans (hb5.mono hq2.size); clear hb5; have g0 := G0 _ hr2; have g1 := G1 _ hr2; have g2 := G2 _ hr2; have g3 := K0 _ hr2))
     rw [rounds_succ]
     go_wp2
     all_goals (try simp only [Exit.inBlock, Exit.then])
     all_goals (refine bodyPost_ret (results_list (rs := [.tmp 2, .tmp 3, .tmp 4, .tmp 5]) rfl (by simp) (.tmp (.tmp (.tmp (.tmp .nil))))) rfl ?_; refine fin _ _ _ _ _ ?_ (by assumption); rw [← hfz]; first | rw [if_pos (of_decide_eq_true (by assumption))] | rw [if_neg (of_decide_eq_false (by assumption))] | rw [if_pos (by omega)] | rw [if_neg (by omega)])
 ·rw [if_neg he0] at h
  have z1 : (e0 != 0) = true := bne_iff_ne.mpr he0
  simp only [Option.some.injEq, Prod.mk.injEq] at h
  obtain ⟨rfl, rfl, rfl, rfl⟩ := h
  go_enter Try.func19, Try.ntmps19
  go_wp2_with (first
   | (go_at_call 40; refine (qrlayout_sized.calls k W H B d dk v s l e0 _ (Kd.C_below hB (hb0 _)) hd hz).mono ?_; rintro e w1 ⟨v2, rfl, hR, hb1⟩; obtain ⟨A, c, rfl, hc, hC⟩ := Kd.R_reads hR; clear hR; have hB1 : Kd.C Kd.bool w1 B dk.length dk := Kd.C_below (Kd.C_below hB (hb0 _)) hb1; have hw1b : Below w.heap.size w w1 := (hb0 _).trans (hb1.mono (by simp)); have hz1 : w.heap.size + 1 ≤ w1.heap.size := (by have := hb1.size; simpa using this); have m0 : w1.cell? ⟨w.heap.size, 0, none⟩ = some (.int .i64 W) := ((hb1.cell (p := ⟨w.heap.size, 0, none⟩) (by simp)).trans (by rw [World.cell?_alloc_at _ _ _ _ rfl]; rfl)); have m1 : w1.cell? ⟨w.heap.size, 1, none⟩ = some (.int .i64 H) := ((hb1.cell (p := ⟨w.heap.size, 1, none⟩) (by simp)).trans (by rw [World.cell?_alloc_at _ _ _ _ rfl]; rfl)); have m2 : w1.cell? ⟨w.heap.size, 2, none⟩ = some (.slice B dk.length d) := ((hb1.cell (p := ⟨w.heap.size, 2, none⟩) (by simp)).trans (by rw [World.cell?_alloc_at _ _ _ _ rfl]; rfl)); have hbw : ∀ o, Below w1.heap.size w1 (w1.alloc o) := (fun o => (Below.refl _ w1).alloc (Nat.le_refl _) _); have F0 : ∀ a b c' W', Below (w1.alloc (.cells #[a, b, c'] 69)).heap.size (w1.alloc (.cells #[a, b, c'] 69)) W' → W'.cell? ⟨w.heap.size, 0, none⟩ = some (.int .i64 W) := (fun a b c' W' h => (h.cell (p := ⟨w.heap.size, 0, none⟩) (by simp; omega)).trans (by rw [World.cell?_alloc_past _ _ _ (by omega)]; exact m0)); have F1 : ∀ a b c' W', Below (w1.alloc (.cells #[a, b, c'] 69)).heap.size (w1.alloc (.cells #[a, b, c'] 69)) W' → W'.cell? ⟨w.heap.size, 1, none⟩ = some (.int .i64 H) := (fun a b c' W' h => (h.cell (p := ⟨w.heap.size, 1, none⟩) (by simp; omega)).trans (by rw [World.cell?_alloc_past _ _ _ (by omega)]; exact m1)); have F2 : ∀ a b c' W', Below (w1.alloc (.cells #[a, b, c'] 69)).heap.size (w1.alloc (.cells #[a, b, c'] 69)) W' → W'.cell? ⟨w.heap.size, 2, none⟩ = some (.slice B dk.length d) := (fun a b c' W' h => (h.cell (p := ⟨w.heap.size, 2, none⟩) (by simp; omega)).trans (by rw [World.cell?_alloc_past _ _ _ (by omega)]; exact m2)); have Q0 : ∀ a b c' W', Below (w1.alloc (.cells #[a, b, c'] 69)).heap.size (w1.alloc (.cells #[a, b, c'] 69)) W' → W'.cell? ⟨w1.heap.size, 0, none⟩ = some a := (fun a b c' W' h => (h.cell (p := ⟨w1.heap.size, 0, none⟩) (by simp)).trans (by rw [World.cell?_alloc_at _ _ _ _ rfl]; rfl)); have Q1 : ∀ a b c' W', Below (w1.alloc (.cells #[a, b, c'] 69)).heap.size (w1.alloc (.cells #[a, b, c'] 69)) W' → W'.cell? ⟨w1.heap.size, 1, none⟩ = some b := (fun a b c' W' h => (h.cell (p := ⟨w1.heap.size, 1, none⟩) (by simp)).trans (by rw [World.cell?_alloc_at _ _ _ _ rfl]; rfl)); have Q2 : ∀ a b c' W', Below (w1.alloc (.cells #[a, b, c'] 69)).heap.size (w1.alloc (.cells #[a, b, c'] 69)) W' → W'.cell? ⟨w1.heap.size, 2, none⟩ = some c' := (fun a b c' W' h => (h.cell (p := ⟨w1.heap.size, 2, none⟩) (by simp)).trans (by rw [World.cell?_alloc_at _ _ _ _ rfl]; rfl)); have f0 := (fun o => cell_alloc_q o m0); have f1 := (fun o => cell_alloc_q o m1); have f2 := (fun o => cell_alloc_q o m2); clear hb1))
  all_goals (try simp only [Exit.inBlock, Exit.then])
  refine bodyPost_ret (results_list (rs := [.tmp 2, .tmp 3, .tmp 4, .tmp 5]) rfl (by simp) (.tmp (.tmp (.tmp (.tmp .nil))))) rfl ?_
  exact ⟨rfl, hw1b.trans ((hbw _).mono hw1b.size)⟩
def barscanref17_Size.f (a0 : Int) : Option (Int × Int) := if a0 < 1 then (some (0, 14)) else (if a0 > 40 then (some (0, 14)) else (some (wrap64 (17 + (wrap64 (4 * a0))), 0)))
end Go.Proofs.Ytbbnagjfjgkgjaa.L
