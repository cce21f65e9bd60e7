-- Written by a program of this session out of the kit's print of the loaded functions (see wip/).
import Derived.Test.YtbbnagjfjgkgjaaKALx0
import Derived.Test.YtbbnagjfjgkgjaaKALx9
import Derived.Test.YtbbnagjfjgkgjaaKALx10
namespace Go.Proofs.Ytbbnagjfjgkgjaa.L
open Go.RowKit Go.Proofs.YtbbnagjfjgkgjaaW.PrintWords Go.Proofs.YtbbnagjfjgkgjaaW.PrintLast Go.Proofs.YtbbnagjfjgkgjaaW.PrintMore
attribute [local go_sem] max2_int min2_int max_two min_two max_three min_three max_four min_four   -- for this text's walks alone
set_option linter.unusedVariables false
set_option linter.unusedSimpArgs false

theorem index81_0' (v0 v1 : Value) (w : World) : Sem.run Try.prog (Instr.index 81 (.agg #[v0, v1]) (.int .i64 0)) w = .ok v0 w := by
 have hu81 := Try.underlying81
 have hu51 := Try.underlying51
 unfold Instr.index
 go_simp
theorem index81_1' (v0 v1 : Value) (w : World) : Sem.run Try.prog (Instr.index 81 (.agg #[v0, v1]) (.int .i64 1)) w = .ok v1 w := by
 have hu81 := Try.underlying81
 have hu51 := Try.underlying51
 unfold Instr.index
 go_simp
attribute [local go_sem] index81_0' index81_1'
def cfStep (k : Nat) (W H : Int) (dk : List Bool) (pl : List S45) (ba : Int × Int) : Option (Int × Int) :=
 (qrlayout_read.f k W H dk pl).bind fun wd => (bch_ParseVersion.f k wd).bind fun r => some (if r.2.2 = 0 ∧ (ba.1 < 0 ∨ r.2.1 < ba.1) then (r.2.1, r.1) else ba)
def qrlayout_frame_confirm.f (k : Nat) (v s : Int) (l : List Int) (W H : Int) (dk : List Bool) : Option Int :=
 (qrlayout_frame_info.f k v s l).bind fun pq => (cfStep k W H dk pq.1 (-1, 0)).bind fun b1 => (cfStep k W H dk pq.2 b1).bind fun b2 => some (if b2.1 < 0 then 21 else if b2.2 = v then 0 else 14)
set_option maxRecDepth 100000 in
set_option maxHeartbeats 8000000 in
theorem qrlayout_frame_confirm.calls (k : Nat) (v s : Int) (A : Option Addr) (c : Nat) (l : List Int) (W H : Int) (B : Option Addr) (d : Nat) (dk : List Bool) (r : Int) (w : World)
  (hA : Kd.C (Kd.int .i64) w A l.length l) (hc : l.length ≤ c) (hB : Kd.C Kd.bool w B dk.length dk) (hd : dk.length ≤ d) (h : qrlayout_frame_confirm.f k v s l W H dk = some r) :
  Calls Try.prog 53 #[.agg #[.int .i64 v, .int .i64 s, .slice A l.length c], .agg #[.int .i64 W, .int .i64 H, .slice B dk.length d]] w fun e w' => e = .returned (.int .i64 r) ∧ Below w.heap.size w w' := by
 have hu69 := Try.underlying69
 have hu24 := Try.underlying24
 have hu81 := Try.underlying81
 simp only [qrlayout_frame_confirm.f, cfStep, Option.bind_eq_some_iff, Option.some.injEq] at h
 obtain ⟨⟨p0, p1⟩, hinfo, b1, ⟨wd1, hw1, ⟨n1, d1, e1⟩, hp1, rfl⟩, b2, ⟨wd2, hw2, ⟨n2, d2, e2⟩, hp2, rfl⟩, hr⟩ := h
 dsimp only at hw1 hw2 hp1 hp2 hr ⊢
 have hb0 : ∀ o o', Below w.heap.size w ((w.alloc o).alloc o') := fun o o' => ((Below.refl _ w).alloc (Nat.le_refl _) _).alloc (by simp) _
 have hsz : ∀ o o', ((w.alloc o).alloc o').heap.size = w.heap.size + 2 := fun o o' => by simp
 go_enter Try.func53, Try.ntmps53
 go_wp2_with (go_at_call 49; refine (qrlayout_frame_info.calls k v s A c l p0 p1 _ (Kd.C_below hA (hb0 _ _)) hc hinfo).mono ?_; rintro e w1 ⟨v1, v2, rfl, hR1, hR2, hb1⟩; obtain ⟨A1, c1, rfl, hc1, hC1⟩ := Kd.R_reads hR1; obtain ⟨A2, c2, rfl, hc2, hC2⟩ := Kd.R_reads hR2; clear hR1 hR2)
 have hB1 : Kd.C Kd.bool w1 B dk.length dk := Kd.C_below (Kd.C_below hB (hb0 _ _)) hb1
 have hw1b : Below w.heap.size w w1 := (hb0 _ _).trans (hb1.mono (by simp; omega))
 have hz1 : w.heap.size + 2 ≤ w1.heap.size := by have := hb1.size; simpa using this
 have F0 : ∀ W', Below w1.heap.size w1 W' → W'.cell? ⟨w.heap.size, 0, none⟩ = some (.int .i64 v) := fun W' h => (h.cell (p := ⟨w.heap.size, 0, none⟩) (by simp; omega)).trans ((hb1.cell (p := ⟨w.heap.size, 0, none⟩) (by simp; omega)).trans (by rw [World.cell?_alloc_past _ _ _ (by simp), World.cell?_alloc_at _ _ _ _ rfl]; rfl))
 have G0 : ∀ W', Below w1.heap.size w1 W' → W'.cell? ⟨w.heap.size + 1, 0, none⟩ = some (.int .i64 W) := fun W' h => (h.cell (p := ⟨w.heap.size + 1, 0, none⟩) (by simp; omega)).trans ((hb1.cell (p := ⟨w.heap.size + 1, 0, none⟩) (by simp)).trans (by rw [World.cell?_alloc_at _ _ _ _ (by simp)]; rfl))
 have G1 : ∀ W', Below w1.heap.size w1 W' → W'.cell? ⟨w.heap.size + 1, 1, none⟩ = some (.int .i64 H) := fun W' h => (h.cell (p := ⟨w.heap.size + 1, 1, none⟩) (by simp; omega)).trans ((hb1.cell (p := ⟨w.heap.size + 1, 1, none⟩) (by simp)).trans (by rw [World.cell?_alloc_at _ _ _ _ (by simp)]; rfl))
 have G2 : ∀ W', Below w1.heap.size w1 W' → W'.cell? ⟨w.heap.size + 1, 2, none⟩ = some (.slice B dk.length d) := fun W' h => (h.cell (p := ⟨w.heap.size + 1, 2, none⟩) (by simp; omega)).trans ((hb1.cell (p := ⟨w.heap.size + 1, 2, none⟩) (by simp)).trans (by rw [World.cell?_alloc_at _ _ _ _ (by simp)]; rfl))
 have hq0 : Below w1.heap.size w1 w1 := Below.refl _ _
 have m0 := F0 _ hq0
 have m1 := G0 _ hq0
 have m2 := G1 _ hq0
 have m3 := G2 _ hq0
 clear hb1
 refine wp_loop_rounds 3 ?_
 rw [rounds_succ]
 have fin : ∀ x W', x = r → Below w1.heap.size w1 W' → (Ending.returned (.int .i64 x) = Ending.returned (.int .i64 r) ∧ Below w.heap.size w W') := fun x W' hx hW => ⟨by rw [hx], hw1b.trans (hW.mono hw1b.size)⟩
 by_cases he1 : e1 = 0
 ·have b1 : (e1 == 0) = true := beq_iff_eq.mpr he1
  go_wp2_with (first
    | (go_at_call 55; refine (qrlayout_read.calls k W H B d dk A1 c1 p0 wd1 _ (Kd.C_below hB1 hq0) hd (Kd.C_below hC1 hq0) hc1 hw1).mono ?_; rintro e w2 ⟨rfl, hb2⟩; have hq1 := hq0.trans (hb2.mono hq0.size); clear hb2)
    | (go_at_call 79; refine (bch_ParseVersion.calls k wd1 n1 d1 e1 _ hp1).mono ?_; rintro e w3 ⟨rfl, hd3⟩; have hr1 := hq1.trans (hd3.below.mono hq1.size); clear hd3; have m0 := F0 _ hr1; have m1 := G0 _ hr1; have m2 := G1 _ hr1; have m3 := G2 _ hr1))
  rw [rounds_succ]
  by_cases he2 : e2 = 0
  ·have b2 : (e2 == 0) = true := beq_iff_eq.mpr he2
   by_cases hd1 : d1 < 0
   ·have b3 : decide (d1 < 0) = true := decide_eq_true hd1
    go_wp2_with (first
    | (go_at_call 55; refine (qrlayout_read.calls k W H B d dk A2 c2 p1 wd2 _ (Kd.C_below hB1 hr1) hd (Kd.C_below hC2 hr1) hc2 hw2).mono ?_; rintro e w2 ⟨rfl, hb2⟩; have hq2 := hr1.trans (hb2.mono hr1.size); clear hb2)
    | (go_at_call 79; refine (bch_ParseVersion.calls k wd2 n2 d2 e2 _ hp2).mono ?_; rintro e w3 ⟨rfl, hd3⟩; have hr2 := hq2.trans (hd3.below.mono hq2.size); clear hd3; have m0 := F0 _ hr2; have m1 := G0 _ hr2; have m2 := G1 _ hr2; have m3 := G2 _ hr2))
    rw [rounds_succ]
    go_wp2
    all_goals (refine bodyPost_ret (results_tmp rfl _ _ _) rfl ?_; refine fin _ _ ?_ (by assumption); rw [← hr]; simp_all)
   ·have b3 : decide (d1 < 0) = false := decide_eq_false hd1
    by_cases hd2 : d2 < d1
    ·have b4 : decide (d2 < d1) = true := decide_eq_true hd2
     go_wp2_with (first
    | (go_at_call 55; refine (qrlayout_read.calls k W H B d dk A2 c2 p1 wd2 _ (Kd.C_below hB1 hr1) hd (Kd.C_below hC2 hr1) hc2 hw2).mono ?_; rintro e w2 ⟨rfl, hb2⟩; have hq2 := hr1.trans (hb2.mono hr1.size); clear hb2)
    | (go_at_call 79; refine (bch_ParseVersion.calls k wd2 n2 d2 e2 _ hp2).mono ?_; rintro e w3 ⟨rfl, hd3⟩; have hr2 := hq2.trans (hd3.below.mono hq2.size); clear hd3; have m0 := F0 _ hr2; have m1 := G0 _ hr2; have m2 := G1 _ hr2; have m3 := G2 _ hr2))
     rw [rounds_succ]
     go_wp2
     all_goals (refine bodyPost_ret (results_tmp rfl _ _ _) rfl ?_; refine fin _ _ ?_ (by assumption); rw [← hr]; simp_all)
    ·have b4 : decide (d2 < d1) = false := decide_eq_false hd2
     have hr2 : (if n1 = v then (0 : Int) else 14) = r := by rw [← hr]; simp [he1, he2, hd1, hd2]
     clear hr
     have hr := hr2
     clear hr2
     go_wp2_with (first
    | (go_at_call 55; refine (qrlayout_read.calls k W H B d dk A2 c2 p1 wd2 _ (Kd.C_below hB1 hr1) hd (Kd.C_below hC2 hr1) hc2 hw2).mono ?_; rintro e w2 ⟨rfl, hb2⟩; have hq2 := hr1.trans (hb2.mono hr1.size); clear hb2)
    | (go_at_call 79; refine (bch_ParseVersion.calls k wd2 n2 d2 e2 _ hp2).mono ?_; rintro e w3 ⟨rfl, hd3⟩; have hr2 := hq2.trans (hd3.below.mono hq2.size); clear hd3; have m0 := F0 _ hr2; have m1 := G0 _ hr2; have m2 := G1 _ hr2; have m3 := G2 _ hr2))
     rw [rounds_succ]
     go_wp2
     all_goals (refine bodyPost_ret (results_tmp rfl _ _ _) rfl ?_; refine fin _ _ ?_ (by assumption); rw [← hr]; simp_all)
  ·have b2 : (e2 == 0) = false := beq_eq_false_iff_ne.mpr he2
   go_wp2_with (first
    | (go_at_call 55; refine (qrlayout_read.calls k W H B d dk A2 c2 p1 wd2 _ (Kd.C_below hB1 hr1) hd (Kd.C_below hC2 hr1) hc2 hw2).mono ?_; rintro e w2 ⟨rfl, hb2⟩; have hq2 := hr1.trans (hb2.mono hr1.size); clear hb2)
    | (go_at_call 79; refine (bch_ParseVersion.calls k wd2 n2 d2 e2 _ hp2).mono ?_; rintro e w3 ⟨rfl, hd3⟩; have hr2 := hq2.trans (hd3.below.mono hq2.size); clear hd3; have m0 := F0 _ hr2; have m1 := G0 _ hr2; have m2 := G1 _ hr2; have m3 := G2 _ hr2))
   rw [rounds_succ]
   go_wp2
   all_goals (refine bodyPost_ret (results_tmp rfl _ _ _) rfl ?_; refine fin _ _ ?_ (by assumption); rw [← hr]; simp_all)
 ·have b1 : (e1 == 0) = false := beq_eq_false_iff_ne.mpr he1
  go_wp2_with (first
    | (go_at_call 55; refine (qrlayout_read.calls k W H B d dk A1 c1 p0 wd1 _ (Kd.C_below hB1 hq0) hd (Kd.C_below hC1 hq0) hc1 hw1).mono ?_; rintro e w2 ⟨rfl, hb2⟩; have hq1 := hq0.trans (hb2.mono hq0.size); clear hb2)
    | (go_at_call 79; refine (bch_ParseVersion.calls k wd1 n1 d1 e1 _ hp1).mono ?_; rintro e w3 ⟨rfl, hd3⟩; have hr1 := hq1.trans (hd3.below.mono hq1.size); clear hd3; have m0 := F0 _ hr1; have m1 := G0 _ hr1; have m2 := G1 _ hr1; have m3 := G2 _ hr1))
  rw [rounds_succ]
  by_cases he2 : e2 = 0
  ·have b2 : (e2 == 0) = true := beq_iff_eq.mpr he2
   go_wp2_with (first
    | (go_at_call 55; refine (qrlayout_read.calls k W H B d dk A2 c2 p1 wd2 _ (Kd.C_below hB1 hr1) hd (Kd.C_below hC2 hr1) hc2 hw2).mono ?_; rintro e w2 ⟨rfl, hb2⟩; have hq2 := hr1.trans (hb2.mono hr1.size); clear hb2)
    | (go_at_call 79; refine (bch_ParseVersion.calls k wd2 n2 d2 e2 _ hp2).mono ?_; rintro e w3 ⟨rfl, hd3⟩; have hr2 := hq2.trans (hd3.below.mono hq2.size); clear hd3; have m0 := F0 _ hr2; have m1 := G0 _ hr2; have m2 := G1 _ hr2; have m3 := G2 _ hr2))
   rw [rounds_succ]
   go_wp2
   all_goals (refine bodyPost_ret (results_tmp rfl _ _ _) rfl ?_; refine fin _ _ ?_ (by assumption); rw [← hr]; simp_all)
  ·have b2 : (e2 == 0) = false := beq_eq_false_iff_ne.mpr he2
   go_wp2_with (first
    | (go_at_call 55; refine (qrlayout_read.calls k W H B d dk A2 c2 p1 wd2 _ (Kd.C_below hB1 hr1) hd (Kd.C_below hC2 hr1) hc2 hw2).mono ?_; rintro e w2 ⟨rfl, hb2⟩; have hq2 := hr1.trans (hb2.mono hr1.size); clear hb2)
    | (go_at_call 79; refine (bch_ParseVersion.calls k wd2 n2 d2 e2 _ hp2).mono ?_; rintro e w3 ⟨rfl, hd3⟩; have hr2 := hq2.trans (hd3.below.mono hq2.size); clear hd3; have m0 := F0 _ hr2; have m1 := G0 _ hr2; have m2 := G1 _ hr2; have m3 := G2 _ hr2))
   rw [rounds_succ]
   go_wp2
   all_goals (refine bodyPost_ret (results_tmp rfl _ _ _) rfl ?_; refine fin _ _ ?_ (by assumption); rw [← hr]; simp_all)
def bch_ParseFormat.j0 : Nat → Int → Bool → Option (Int × Int × Int × Int)
 | 0, _, _ => none
 | k + 1, x0, x15 => if x15 = true then (some (0, 0, 0, 3)) else ((bch_find.f k (Go.bits .xor .i64 x0 21522) 5 1335 3).bind fun bt290 => (if bt290.2.2 = true then (if 0 ≤ (wrap64 (Int.tdiv bt290.1 8)) then (if (wrap64 (Int.tdiv bt290.1 8)) < 4 then (some (wrap64 (bt (⟨#[2, 1, 4, 3]⟩ : ByteArray) (wrap64 (Int.tdiv bt290.1 8))), Int.tmod bt290.1 8, bt290.2.1, 0)) else (none)) else (none)) else (some (0, 0, 0, 21))))
def bch_ParseFormat.f (k : Nat) (a0 : Int) : Option (Int × Int × Int × Int) := if a0 < 0 then (bch_ParseFormat.j0 k a0 true) else (bch_ParseFormat.j0 k a0 (decide (a0 ≥ 32768)))
set_option maxHeartbeats 8000000 in
set_option maxRecDepth 100000 in
theorem bch_ParseFormat.calls (k : Nat) (a0 : Int) (r1 : Int) (r2 : Int) (r3 : Int) (r4 : Int) (w : World) (h : bch_ParseFormat.f k a0 = some (r1, r2, r3, r4)) :
  Calls Try.prog 54 #[.int .i64 a0] w fun e w' => e = .returned (.tuple #[.int .i64 r1, .int .i64 r2, .int .i64 r3, .int .i64 r4]) ∧ Below w.heap.size w w' := by
 have HB := Aside0.mk (Below.refl w.heap.size w)
 have H : (if a0 < 0 then (bch_ParseFormat.j0 k a0 true) else (bch_ParseFormat.j0 k a0 (decide (a0 ≥ 32768)))) = some (r1, r2, r3, r4) := h
 clear h
 have HC2 := Aside0.mk H
 clear H
 go_enter Try.func54, Try.ntmps54
 go_upto_region 1 with (fail)
 go_cut [15] (fun v15 wc => ∃ (kq : Nat) (x15_1 : Bool), v15 = .bool x15_1 ∧ Aside0 (bch_ParseFormat.j0 kq a0 x15_1 = some (r1, r2, r3, r4)) ∧ Aside0 (kq ≤ k) ∧ Aside0 (Below w.heap.size w wc))
 case first =>
  have H := HC2.out
  clear HC2
  by_cases c3 : a0 < 0
  ·rw [if_pos c3] at H
   have c3b0 : decide (a0 < 0) = true := decide_eq_true c3
   clear c3
   (first | rw [c3b0] | (simp only [i64_w, i32_w]; rw [c3b0]) | skip)
   have H' := Aside0.mk H
   clear H
   go_wp2
   go_meet
   case rel => exact ⟨_, (true), smpA, H', ⟨by first | omega | exact Nat.le_refl _⟩, ⟨belA HB.out⟩⟩
  ·rw [if_neg c3] at H
   have c3b0 : decide (a0 < 0) = false := decide_eq_false c3
   clear c3
   (first | rw [c3b0] | (simp only [i64_w, i32_w]; rw [c3b0]) | skip)
   have H' := Aside0.mk H
   clear H
   go_wp2
   go_meet
   case rel => exact ⟨_, (decide (a0 ≥ 32768)), smpA, H', ⟨by first | omega | exact Nat.le_refl _⟩, ⟨belA HB.out⟩⟩
 case rest =>
  clear HC2
  try clear p2
  try clear c3
  try clear c3b0
  obtain ⟨kq, x15_1, rfl, HA, HJ1, HB⟩ := hcut
  cases kq with
  | zero => exact absurd HA.out (by simp [bch_ParseFormat.j0])
  | succ kj1 =>
   have H := HA.out
   clear HA
   simp only [bch_ParseFormat.j0] at H
   by_cases c4 : x15_1 = true
   ·subst c4
    have H1 : (some (0, 0, 0, 3)) = some (r1, r2, r3, r4) := by rw [if_pos rfl] at H; exact H
    clear H
    have H := H1
    clear H1
    simp only [Option.some.injEq, Prod.mk.injEq] at H
    obtain ⟨rfl, rfl, rfl, rfl⟩ := H
    go_wp2
    refine bodyPost_ret (results_list (rs := [.tmp 2, .tmp 3, .tmp 4, .tmp 5]) rfl (by simp) (.tmp (.tmp (.tmp (.tmp .nil))))) rfl ?_
    exact ⟨errA, belA HB.out⟩
   ·replace c4 := Bool.eq_false_iff.mpr c4
    subst c4
    have H1 : ((bch_find.f kj1 (Go.bits .xor .i64 a0 21522) 5 1335 3).bind fun bt290 => (if bt290.2.2 = true then (if 0 ≤ (wrap64 (Int.tdiv bt290.1 8)) then (if (wrap64 (Int.tdiv bt290.1 8)) < 4 then (some (wrap64 (bt (⟨#[2, 1, 4, 3]⟩ : ByteArray) (wrap64 (Int.tdiv bt290.1 8))), Int.tmod bt290.1 8, bt290.2.1, 0)) else (none)) else (none)) else (some (0, 0, 0, 21)))) = some (r1, r2, r3, r4) := by rw [if_neg (show ¬ (false = true) by decide)] at H; exact H
    clear H
    have H := H1
    clear H1
    replace H := Option.bind_eq_some_iff.mp H
    obtain ⟨⟨t290, t291, t292⟩, A50, H⟩ := H
    replace H : (if t292 = true then (if 0 ≤ (wrap64 (Int.tdiv t290 8)) then (if (wrap64 (Int.tdiv t290 8)) < 4 then (some (wrap64 (bt (⟨#[2, 1, 4, 3]⟩ : ByteArray) (wrap64 (Int.tdiv t290 8))), Int.tmod t290 8, t291, 0)) else (none)) else (none)) else (some (0, 0, 0, 21))) = some (r1, r2, r3, r4) := H
    have A5 := Aside0.mk A50
    clear A50
    by_cases c6 : t292 = true
    ·subst c6
     have H1 : (if 0 ≤ (wrap64 (Int.tdiv t290 8)) then (if (wrap64 (Int.tdiv t290 8)) < 4 then (some (wrap64 (bt (⟨#[2, 1, 4, 3]⟩ : ByteArray) (wrap64 (Int.tdiv t290 8))), Int.tmod t290 8, t291, 0)) else (none)) else (none)) = some (r1, r2, r3, r4) := by rw [if_pos rfl] at H; exact H
     clear H
     have H := H1
     clear H1
     obtain ⟨ji7, hji7⟩ : ∃ j_ : Int, (wrap64 (Int.tdiv t290 8)) = j_ := ⟨_, rfl⟩
     replace H : (if 0 ≤ (ji7) then (if (ji7) < 4 then (some (wrap64 (bt (⟨#[2, 1, 4, 3]⟩ : ByteArray) (ji7)), Int.tmod t290 8, t291, 0)) else (none)) else (none)) = some (r1, r2, r3, r4) := by first | (rw [hji7] at H; exact H) | (simp only [hji7] at H ⊢; exact H)
     (try rw [hji7] at A5)
     have hji7w : (IntKind.i64.wrap (Int.tdiv t290 8)) = ji7 := (i64_w _).trans hji7
     by_cases c8 : 0 ≤ (ji7)
     ·rw [if_pos c8] at H
      have c8b0 : decide (0 ≤ (ji7)) = true := decide_eq_true c8
      clear c8
      by_cases c9 : (ji7) < 4
      ·rw [if_pos c9] at H
       have c9b0 : decide ((ji7) < 4) = true := decide_eq_true c9
       clear c9
       simp only [Option.some.injEq, Prod.mk.injEq] at H
       obtain ⟨rfl, rfl, rfl, rfl⟩ := H
       have hcase : ji7 = 0 ∨ ji7 = 1 ∨ ji7 = 2 ∨ ji7 = 3 := by
        have h1 := of_decide_eq_true c8b0
        have h2 := of_decide_eq_true c9b0
        omega
       clear c8b0 c9b0
       have hHB := HB
       rcases hcase with rfl | rfl | rfl | rfl
       all_goals
        go_wp2_with (first | ((with_reducible refine gate_callee (f := 80) rfl ?_); refine goesL_ (some 19) rfl rfl Try.func80 (by kernel_rfl) rfl #[.int .i64 (Go.bits .xor .i64 a0 21522), .int .i64 5, .int .i64 1335, .int .i64 3] rfl argA ?_; (with_reducible refine (bch_find.calls kj1 (Go.bits .xor .i64 a0 21522) 5 1335 3 t290 t291 true _ A5.out).mono ?_); rintro e w2 ⟨rfl, hd2⟩; have HD := Aside0.mk hd2; clear hd2; refine ⟨_, rfl, ?_⟩))
        refine bodyPost_ret (results_list (rs := [.tmp 2, .tmp 3, .tmp 4, .tmp 5]) rfl (by simp) (.tmp (.tmp (.tmp (.tmp .nil))))) rfl ?_
        refine ⟨?_, below_alloc (below_then hHB.out (below_size hHB.out) HD.out.below) _⟩
        first
         | (rw [show wrap64 (bt (⟨#[2, 1, 4, 3]⟩ : ByteArray) 0) = 2 by kernel_rfl]; rfl)
         | (rw [show wrap64 (bt (⟨#[2, 1, 4, 3]⟩ : ByteArray) 1) = 1 by kernel_rfl]; rfl)
         | (rw [show wrap64 (bt (⟨#[2, 1, 4, 3]⟩ : ByteArray) 2) = 4 by kernel_rfl]; rfl)
         | (rw [show wrap64 (bt (⟨#[2, 1, 4, 3]⟩ : ByteArray) 3) = 3 by kernel_rfl]; rfl)
      ·rw [if_neg c9] at H
       exact absurd H (by simp)
     ·rw [if_neg c8] at H
      exact absurd H (by simp)
    ·replace c6 := Bool.eq_false_iff.mpr c6
     subst c6
     have H1 : (some (0, 0, 0, 21)) = some (r1, r2, r3, r4) := by rw [if_neg (show ¬ (false = true) by decide)] at H; exact H
     clear H
     have H := H1
     clear H1
     simp only [Option.some.injEq, Prod.mk.injEq] at H
     obtain ⟨rfl, rfl, rfl, rfl⟩ := H
     go_wp2_with (first | ((with_reducible refine gate_callee (f := 80) rfl ?_); refine goesL_ (some 19) rfl rfl Try.func80 (by kernel_rfl) rfl #[.int .i64 (Go.bits .xor .i64 a0 21522), .int .i64 5, .int .i64 1335, .int .i64 3] rfl argA ?_; (with_reducible refine (bch_find.calls kj1 (Go.bits .xor .i64 a0 21522) 5 1335 3 t290 t291 false _ A5.out).mono ?_); rintro e w' ⟨rfl, ⟨nd, rfl⟩⟩; refine ⟨_, rfl, ?_⟩))
     refine bodyPost_ret (results_list (rs := [.tmp 2, .tmp 3, .tmp 4, .tmp 5]) rfl (by simp) (.tmp (.tmp (.tmp (.tmp .nil))))) rfl ?_
     exact ⟨errA, belA HB.out⟩

end Go.Proofs.Ytbbnagjfjgkgjaa.L
