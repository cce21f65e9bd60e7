/- The law of Blank and Faults, walked. -/
import Derived.RangeFuncBox
import Derived.Test.YtbbnagjfjgkgjaaK3Lb1
import Derived.Test.YtbbnagjfjgkgjaaK3Alv
namespace Go.Proofs.Ytbbnagjfjgkgjaa.L
open Go.RowKit Go.Proofs.YtbbnagjfjgkgjaaW.PrintWords Go.Proofs.YtbbnagjfjgkgjaaW.PrintLast Go.Proofs.YtbbnagjfjgkgjaaW.PrintMore
set_option linter.unusedVariables false
set_option linter.unusedSimpArgs false

set_option maxRecDepth 100000 in
set_option maxHeartbeats 8000000 in
/-- The law's walk, where both sides say the same. -/
theorem law3_small (k : Nat) (a0 W H : Int) (A : Option Addr) (c : Nat) (l : List Bool) (W1 H1 e1 n g : Int) (d1 : List Bool) (w : World) (hA : Kd.C Kd.bool w A l.length l) (hc : l.length ≤ c) (hs : (l.length : Int) ≤ 40000)
  (h1 : qrlayout_Blank.f k a0 = some (W1, H1, d1, e1)) (h2 : barscanref20_Blank.f k a0 = some (W1, H1, d1, e1)) (h3 : qrlayout_Faults.f k W H l = some (n, g)) (h4 : barscanref20_Faults.f k W H l = some (n, g)) (h5 : barscanref20_Same.f k W1 H1 d1 W1 H1 d1 = some true) :
  Calls Try.prog 3 #[.int .i64 a0, .agg #[.int .i64 W, .int .i64 H, .slice A l.length c]] w fun e w' => e = .returned (.bool true) ∧ Below w.heap.size w w' := by
 have hu24 := Try.underlying24
 have hsm : barscanlaw20_small.f W H l = some true := by unfold barscanlaw20_small.f; rw [decide_eq_true hs]
 have hb0 : ∀ o, Below w.heap.size w (w.alloc o) := fun o => (Below.refl _ w).alloc (Nat.le_refl _) _
 have hA0 := Kd.C_below hA (hb0 (.cells #[.int .i64 W, .int .i64 H, .slice A l.length c] 24))
 go_enter Try.func3, Try.ntmps3
 go_wp2_with (first
  | (go_at_call 10; refine (barscanlaw20_small.calls W H A c l true _ hA0 hc hsm).mono ?_; rintro e w1 ⟨rfl, hb1⟩; have B1 : Below w.heap.size w w1 := (hb0 _).trans (hb1.mono (by simp)); have C1 := Kd.C_below hA0 hb1; have m0 : w1.cell? ⟨w.heap.size, 0, none⟩ = some (.int .i64 W) := ((hb1.cell (p := ⟨w.heap.size, 0, none⟩) (by simp)).trans (by rw [World.cell?_alloc_at _ _ _ _ rfl]; rfl)); have m1 : w1.cell? ⟨w.heap.size, 1, none⟩ = some (.int .i64 H) := ((hb1.cell (p := ⟨w.heap.size, 1, none⟩) (by simp)).trans (by rw [World.cell?_alloc_at _ _ _ _ rfl]; rfl)); have m2 : w1.cell? ⟨w.heap.size, 2, none⟩ = some (.slice A l.length c) := ((hb1.cell (p := ⟨w.heap.size, 2, none⟩) (by simp)).trans (by rw [World.cell?_alloc_at _ _ _ _ rfl]; rfl)); have z1 : w.heap.size < w1.heap.size := (by have := hb1.size; simp at this; omega); clear hb1)
  | (go_at_call 12; refine (qrlayout_Blank.calls k a0 W1 H1 d1 e1 _ h1).mono ?_; rintro e w2 ⟨v2, rfl, hR2, hb2⟩; obtain ⟨A1, c1, rfl, hc1, hC1⟩ := Kd.R_reads hR2; clear hR2; have D2 : ∀ o, Below w1.heap.size w1 (w2.alloc o) := (fun o => hb2.alloc hb2.size _))
  | (go_at_call 13; refine (barscanref20_Blank.calls k a0 W1 H1 d1 e1 _ h2).mono ?_; rintro e w3 ⟨v3, rfl, hR3, hb3⟩; obtain ⟨A2, c2, rfl, hc2, hC2⟩ := Kd.R_reads hR3; clear hR3; have n0 : w3.cell? ⟨w2.heap.size, 0, none⟩ = some (.int .i64 W1) := ((hb3.cell (p := ⟨w2.heap.size, 0, none⟩) (by simp)).trans (by rw [World.cell?_alloc_at _ _ _ _ rfl]; rfl)); have n1 : w3.cell? ⟨w2.heap.size, 1, none⟩ = some (.int .i64 H1) := ((hb3.cell (p := ⟨w2.heap.size, 1, none⟩) (by simp)).trans (by rw [World.cell?_alloc_at _ _ _ _ rfl]; rfl)); have n2 : w3.cell? ⟨w2.heap.size, 2, none⟩ = some (.slice A1 d1.length c1) := ((hb3.cell (p := ⟨w2.heap.size, 2, none⟩) (by simp)).trans (by rw [World.cell?_alloc_at _ _ _ _ rfl]; rfl)); have z3 : w2.heap.size < w3.heap.size := (by have := hb3.size; simp at this; omega); have D3 : Below w1.heap.size w1 w3 := (D2 (.cells #[.int .i64 W1, .int .i64 H1, .slice A1 d1.length c1] 24)).trans (hb3.mono (D2 (.cells #[.int .i64 W1, .int .i64 H1, .slice A1 d1.length c1] 24)).size); have E3 := Kd.C_below (Kd.C_alloc hC1 (.cells #[.int .i64 W1, .int .i64 H1, .slice A1 d1.length c1] 24)) hb3; clear hb3 hb2; have a0' := (D3.cell (p := ⟨w.heap.size, 0, none⟩) z1).trans m0; have a1' := (D3.cell (p := ⟨w.heap.size, 1, none⟩) z1).trans m1; have a2' := (D3.cell (p := ⟨w.heap.size, 2, none⟩) z1).trans m2; have f0 := (fun o => cell_alloc_a o a0'); have f1 := (fun o => cell_alloc_a o a1'); have f2 := (fun o => cell_alloc_a o a2'); have g0 := (fun o => cell_alloc_a o n0); have g1 := (fun o => cell_alloc_a o n1); have g2 := (fun o => cell_alloc_a o n2))
  | (go_at_call 14; refine (qrlayout_Faults.calls k W H A c l n g _ (Kd.C_alloc (Kd.C_below C1 D3) _) hc h3).mono ?_; rintro e w4 ⟨rfl, hb4⟩; have r0 := ((hb4.cell (p := ⟨w3.heap.size, 0, none⟩) (by simp)).trans (by rw [World.cell?_alloc_at _ _ _ _ rfl]; rfl) : w4.cell? ⟨w3.heap.size, 0, none⟩ = some (.int .i64 W1)); have r1 := ((hb4.cell (p := ⟨w3.heap.size, 1, none⟩) (by simp)).trans (by rw [World.cell?_alloc_at _ _ _ _ rfl]; rfl) : w4.cell? ⟨w3.heap.size, 1, none⟩ = some (.int .i64 H1)); have r2 := ((hb4.cell (p := ⟨w3.heap.size, 2, none⟩) (by simp)).trans (by rw [World.cell?_alloc_at _ _ _ _ rfl]; rfl) : w4.cell? ⟨w3.heap.size, 2, none⟩ = some (.slice A2 d1.length c2)); have z4 : w3.heap.size < w4.heap.size := (by have := hb4.size; simp at this; omega); have b4 : Below w3.heap.size w3 w4 := (((Below.refl _ w3).alloc (Nat.le_refl _) (.cells #[.int .i64 W1, .int .i64 H1, .slice A2 d1.length c2] 24)).trans (hb4.mono (by simp))); have G4 := Kd.C_below (Kd.C_alloc hC2 (.cells #[.int .i64 W1, .int .i64 H1, .slice A2 d1.length c2] 24)) hb4; clear hb4; have s0 := (b4.cell (p := ⟨w2.heap.size, 0, none⟩) z3).trans n0; have s1 := (b4.cell (p := ⟨w2.heap.size, 1, none⟩) z3).trans n1; have s2 := (b4.cell (p := ⟨w2.heap.size, 2, none⟩) z3).trans n2; have D4 := D3.trans (b4.mono D3.size); have t0 := (D4.cell (p := ⟨w.heap.size, 0, none⟩) z1).trans m0; have t1 := (D4.cell (p := ⟨w.heap.size, 1, none⟩) z1).trans m1; have t2 := (D4.cell (p := ⟨w.heap.size, 2, none⟩) z1).trans m2; have E4 := Kd.C_below E3 b4)
  | (go_at_call 15; refine (barscanref20_Faults.calls k W H A c l n g _ (Kd.C_below C1 D4) hc h4).mono ?_; rintro e w5 ⟨rfl, hb5⟩; have u0 := (hb5.cell (p := ⟨w3.heap.size, 0, none⟩) z4).trans r0; have u1 := (hb5.cell (p := ⟨w3.heap.size, 1, none⟩) z4).trans r1; have u2 := (hb5.cell (p := ⟨w3.heap.size, 2, none⟩) z4).trans r2; have z5 : w2.heap.size < w4.heap.size := Nat.lt_of_lt_of_le z3 b4.size; have x0 := (hb5.cell (p := ⟨w2.heap.size, 0, none⟩) z5).trans s0; have x1 := (hb5.cell (p := ⟨w2.heap.size, 1, none⟩) z5).trans s1; have x2 := (hb5.cell (p := ⟨w2.heap.size, 2, none⟩) z5).trans s2; have D5 := D4.trans (hb5.mono D4.size); have E5 := Kd.C_below E4 hb5; have G5 := Kd.C_below G4 hb5)
  | (go_at_call 16; refine (barscanref20_Same.calls k W1 H1 A1 c1 d1 W1 H1 A2 c2 d1 true _ E5 hc1 G5 hc2 h5).mono ?_; rintro e w6 ⟨rfl, hb6⟩; have D6 := D5.trans (hb6.mono D5.size))
  | (go_at_call 11; refine (barscanlaw20_alive.calls true _ rfl).mono ?_; rintro e w7 ⟨rfl, hb7⟩; have D7 := B1.trans ((D6.trans (hb7.mono D6.size)).mono B1.size)))
 go_ret
 exact ⟨by simp, D7⟩
set_option maxRecDepth 100000 in
set_option maxHeartbeats 8000000 in
theorem law3_big (a0 W H : Int) (A : Option Addr) (c : Nat) (l : List Bool) (w : World) (hA : Kd.C Kd.bool w A l.length l) (hc : l.length ≤ c) (hs : ¬ (l.length : Int) ≤ 40000) :
  Calls Try.prog 3 #[.int .i64 a0, .agg #[.int .i64 W, .int .i64 H, .slice A l.length c]] w fun e w' => e = .returned (.bool true) ∧ Below w.heap.size w w' := by
 have hu24 := Try.underlying24
 have hsm : barscanlaw20_small.f W H l = some false := by unfold barscanlaw20_small.f; rw [decide_eq_false hs]
 have hb0 : ∀ o, Below w.heap.size w (w.alloc o) := fun o => (Below.refl _ w).alloc (Nat.le_refl _) _
 have hA0 := Kd.C_below hA (hb0 (.cells #[.int .i64 W, .int .i64 H, .slice A l.length c] 24))
 go_enter Try.func3, Try.ntmps3
 go_wp2_with (first
  | (go_at_call 10; refine (barscanlaw20_small.calls W H A c l false _ hA0 hc hsm).mono ?_; rintro e w1 ⟨rfl, hb1⟩; have B1 : Below w.heap.size w w1 := (hb0 _).trans (hb1.mono (by simp)))
  | (go_at_call 11; refine (barscanlaw20_alive.calls true _ rfl).mono ?_; rintro e w7 ⟨rfl, hb7⟩; have D7 := B1.trans (hb7.mono B1.size)))
 go_ret
 exact ⟨rfl, D7⟩
end Go.Proofs.Ytbbnagjfjgkgjaa.L
