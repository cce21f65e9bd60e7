/- The law of Sign and Read, walked. -/
import Derived.RangeFuncBox
import Derived.Test.YtbbnagjfjgkgjaaK4Lx16
import Derived.Test.YtbbnagjfjgkgjaaK4Lx9
import Derived.Test.YtbbnagjfjgkgjaaK4Lx12
import Derived.Test.YtbbnagjfjgkgjaaK4Lx18
import Derived.Test.YtbbnagjfjgkgjaaK4Lx20
import Derived.Test.YtbbnagjfjgkgjaaK4Alv
namespace Go.Proofs.Ytbbnagjfjgkgjaa.L
open Go.RowKit Go.Proofs.YtbbnagjfjgkgjaaW.PrintWords Go.Proofs.YtbbnagjfjgkgjaaW.PrintLast Go.Proofs.YtbbnagjfjgkgjaaW.PrintMore
set_option linter.unusedVariables false
set_option linter.unusedSimpArgs false

set_option maxRecDepth 100000 in
set_option maxHeartbeats 8000000 in
/-- The law's walk, where both sides say the same. -/
theorem law4_small (k : Nat) (W H : Int) (A : Option Addr) (c : Nat) (l : List Bool) (b1 b2 : Int) (W1 H1 e1 : Int) (d1 : List Bool) (r1 r2 r3 r4 : Int) (w : World) (hA : Kd.C Kd.bool w A l.length l) (hc : l.length ≤ c) (hs : (l.length : Int) ≤ 40000)
  (h1 : qrlayout_Sign.f k W H l b1 b2 = some (W1, H1, d1, e1)) (h2 : barscanref20_Sign.f k W H l b1 b2 = some (W1, H1, d1, e1)) (h3 : qrlayout_Read.f k W H l = some (r1, r2, r3, r4)) (h4 : barscanref20_Read.f k W H l = some (r1, r2, r3, r4)) (h5 : barscanref20_Same.f k W1 H1 d1 W1 H1 d1 = some true) :
  Calls Try.prog 4 #[.agg #[.int .i64 W, .int .i64 H, .slice A l.length c], .int .i64 b1, .int .i64 b2] w fun e w' => e = .returned (.bool true) ∧ Below w.heap.size w w' := by
 have hu24 := Try.underlying24
 have hsm : barscanlaw20_small.f W H l = some true := by unfold barscanlaw20_small.f; rw [decide_eq_true hs]
 have hb0 : ∀ o, Below w.heap.size w (w.alloc o) := fun o => (Below.refl _ w).alloc (Nat.le_refl _) _
 have hA0 := Kd.C_below hA (hb0 (.cells #[.int .i64 W, .int .i64 H, .slice A l.length c] 24))
 go_enter Try.func4, Try.ntmps4
 go_wp2_with (first
  | (go_at_call 10; refine (barscanlaw20_small.calls W H A c l true _ hA0 hc hsm).mono ?_; rintro e w1 ⟨rfl, hb⟩; have B1 : Below w.heap.size w w1 := (hb0 _).trans (hb.mono (by simp)); have C1 := Kd.C_below hA0 hb; have m0 : w1.cell? ⟨w.heap.size, 0, none⟩ = some (.int .i64 W) := ((hb.cell (p := ⟨w.heap.size, 0, none⟩) (by simp)).trans (by rw [World.cell?_alloc_at _ _ _ _ rfl]; rfl)); have m1 : w1.cell? ⟨w.heap.size, 1, none⟩ = some (.int .i64 H) := ((hb.cell (p := ⟨w.heap.size, 1, none⟩) (by simp)).trans (by rw [World.cell?_alloc_at _ _ _ _ rfl]; rfl)); have m2 : w1.cell? ⟨w.heap.size, 2, none⟩ = some (.slice A l.length c) := ((hb.cell (p := ⟨w.heap.size, 2, none⟩) (by simp)).trans (by rw [World.cell?_alloc_at _ _ _ _ rfl]; rfl)); have z1 : w.heap.size < w1.heap.size := (by have := hb.size; simp at this; omega); clear hb)
  | (go_at_call 17; refine (qrlayout_Sign.calls k W H A c l b1 b2 W1 H1 d1 e1 _ C1 hc h1).mono ?_; rintro e w2 ⟨v2, rfl, hR2, hb2⟩; obtain ⟨A1, c1, rfl, hc1, hC1⟩ := Kd.R_reads hR2; clear hR2; have p0 := (hb2.cell (p := ⟨w.heap.size, 0, none⟩) z1).trans m0; have p1 := (hb2.cell (p := ⟨w.heap.size, 1, none⟩) z1).trans m1; have p2 := (hb2.cell (p := ⟨w.heap.size, 2, none⟩) z1).trans m2;have q0 := (fun o => cell_alloc_a o p0); have q1 := (fun o => cell_alloc_a o p1); have q2 := (fun o => cell_alloc_a o p2);)
  | (go_at_call 18; refine (barscanref20_Sign.calls k W H A c l b1 b2 W1 H1 d1 e1 _ (Kd.C_alloc (Kd.C_below C1 hb2) _) hc h2).mono ?_; rintro e w3 ⟨v3, rfl, hR3, hb⟩; obtain ⟨A2, c2, rfl, hc2, hC2⟩ := Kd.R_reads hR3; clear hR3; have n0 : w3.cell? ⟨w2.heap.size, 0, none⟩ = some (.int .i64 W1) := ((hb.cell (p := ⟨w2.heap.size, 0, none⟩) (by simp)).trans (by rw [World.cell?_alloc_at _ _ _ _ rfl]; rfl)); have n1 : w3.cell? ⟨w2.heap.size, 1, none⟩ = some (.int .i64 H1) := ((hb.cell (p := ⟨w2.heap.size, 1, none⟩) (by simp)).trans (by rw [World.cell?_alloc_at _ _ _ _ rfl]; rfl)); have n2 : w3.cell? ⟨w2.heap.size, 2, none⟩ = some (.slice A1 d1.length c1) := ((hb.cell (p := ⟨w2.heap.size, 2, none⟩) (by simp)).trans (by rw [World.cell?_alloc_at _ _ _ _ rfl]; rfl)); have z3 : w2.heap.size < w3.heap.size := (by have := hb.size; simp at this; omega); have D2 := hb2.alloc hb2.size (.cells #[.int .i64 W1, .int .i64 H1, .slice A1 d1.length c1] 24); have D3 : Below w1.heap.size w1 w3 := D2.trans (hb.mono D2.size); have E3 := Kd.C_below (Kd.C_alloc hC1 (.cells #[.int .i64 W1, .int .i64 H1, .slice A1 d1.length c1] 24)) hb; clear hb; have s0 := (D3.cell (p := ⟨w.heap.size, 0, none⟩) z1).trans m0; have s1 := (D3.cell (p := ⟨w.heap.size, 1, none⟩) z1).trans m1; have s2 := (D3.cell (p := ⟨w.heap.size, 2, none⟩) z1).trans m2;have t0 := (fun o => cell_alloc_a o s0); have t1 := (fun o => cell_alloc_a o s1); have t2 := (fun o => cell_alloc_a o s2);have u0 := (fun o => cell_alloc_a o n0); have u1 := (fun o => cell_alloc_a o n1); have u2 := (fun o => cell_alloc_a o n2);)
  | (go_at_call 19; refine (qrlayout_Read.calls k W H A c l r1 r2 r3 r4 _ (Kd.C_alloc (Kd.C_below C1 D3) _) hc h3).mono ?_; rintro e w4 ⟨rfl, hb⟩; have rr0 : w4.cell? ⟨w3.heap.size, 0, none⟩ = some (.int .i64 W1) := ((hb.cell (p := ⟨w3.heap.size, 0, none⟩) (by simp)).trans (by rw [World.cell?_alloc_at _ _ _ _ rfl]; rfl)); have rr1 : w4.cell? ⟨w3.heap.size, 1, none⟩ = some (.int .i64 H1) := ((hb.cell (p := ⟨w3.heap.size, 1, none⟩) (by simp)).trans (by rw [World.cell?_alloc_at _ _ _ _ rfl]; rfl)); have rr2 : w4.cell? ⟨w3.heap.size, 2, none⟩ = some (.slice A2 d1.length c2) := ((hb.cell (p := ⟨w3.heap.size, 2, none⟩) (by simp)).trans (by rw [World.cell?_alloc_at _ _ _ _ rfl]; rfl)); have z4 : w3.heap.size < w4.heap.size := (by have := hb.size; simp at this; omega); have b4 : Below w3.heap.size w3 w4 := (((Below.refl _ w3).alloc (Nat.le_refl _) (.cells #[.int .i64 W1, .int .i64 H1, .slice A2 d1.length c2] 24)).trans (hb.mono (by simp))); have G4 := Kd.C_below (Kd.C_alloc hC2 (.cells #[.int .i64 W1, .int .i64 H1, .slice A2 d1.length c2] 24)) hb; clear hb; have x0 := (b4.cell (p := ⟨w2.heap.size, 0, none⟩) z3).trans n0; have x1 := (b4.cell (p := ⟨w2.heap.size, 1, none⟩) z3).trans n1; have x2 := (b4.cell (p := ⟨w2.heap.size, 2, none⟩) z3).trans n2; have D4 := D3.trans (b4.mono D3.size); have y0 := (D4.cell (p := ⟨w.heap.size, 0, none⟩) z1).trans m0; have y1 := (D4.cell (p := ⟨w.heap.size, 1, none⟩) z1).trans m1; have y2 := (D4.cell (p := ⟨w.heap.size, 2, none⟩) z1).trans m2; have E4 := Kd.C_below E3 b4)
  | (go_at_call 20; refine (barscanref20_Read.calls k W H A c l r1 r2 r3 r4 _ (Kd.C_below C1 D4) hc h4).mono ?_; rintro e w5 ⟨rfl, hb5⟩; have f0 := (hb5.cell (p := ⟨w3.heap.size, 0, none⟩) z4).trans rr0; have f1 := (hb5.cell (p := ⟨w3.heap.size, 1, none⟩) z4).trans rr1; have f2 := (hb5.cell (p := ⟨w3.heap.size, 2, none⟩) z4).trans rr2; have z5 : w2.heap.size < w4.heap.size := Nat.lt_of_lt_of_le z3 b4.size; have g0 := (hb5.cell (p := ⟨w2.heap.size, 0, none⟩) z5).trans x0; have g1 := (hb5.cell (p := ⟨w2.heap.size, 1, none⟩) z5).trans x1; have g2 := (hb5.cell (p := ⟨w2.heap.size, 2, none⟩) z5).trans x2; have D5 := D4.trans (hb5.mono D4.size); have E5 := Kd.C_below E4 hb5; have G5 := Kd.C_below G4 hb5)
  | (go_at_call 16; refine (barscanref20_Same.calls k W1 H1 A1 c1 d1 W1 H1 A2 c2 d1 true _ E5 hc1 G5 hc2 h5).mono ?_; rintro e w6 ⟨rfl, hb6⟩; have D6 := D5.trans (hb6.mono D5.size))
  | (go_at_call 11; refine (barscanlaw20_alive.calls true _ rfl).mono ?_; rintro e w7 ⟨rfl, hb7⟩; have D7 := B1.trans ((D6.trans (hb7.mono D6.size)).mono B1.size)))
 go_ret
 exact ⟨by simp, D7⟩
set_option maxRecDepth 100000 in
set_option maxHeartbeats 8000000 in
theorem law4_big (W H : Int) (A : Option Addr) (c : Nat) (l : List Bool) (b1 b2 : Int) (w : World) (hA : Kd.C Kd.bool w A l.length l) (hc : l.length ≤ c) (hs : ¬ (l.length : Int) ≤ 40000) :
  Calls Try.prog 4 #[.agg #[.int .i64 W, .int .i64 H, .slice A l.length c], .int .i64 b1, .int .i64 b2] w fun e w' => e = .returned (.bool true) ∧ Below w.heap.size w w' := by
 have hu24 := Try.underlying24
 have hsm : barscanlaw20_small.f W H l = some false := by unfold barscanlaw20_small.f; rw [decide_eq_false hs]
 have hb0 : ∀ o, Below w.heap.size w (w.alloc o) := fun o => (Below.refl _ w).alloc (Nat.le_refl _) _
 have hA0 := Kd.C_below hA (hb0 (.cells #[.int .i64 W, .int .i64 H, .slice A l.length c] 24))
 go_enter Try.func4, Try.ntmps4
 go_wp2_with (first
  | (go_at_call 10; refine (barscanlaw20_small.calls W H A c l false _ hA0 hc hsm).mono ?_; rintro e w1 ⟨rfl, hb⟩; have B1 : Below w.heap.size w w1 := (hb0 _).trans (hb.mono (by simp)))
  | (go_at_call 11; refine (barscanlaw20_alive.calls true _ rfl).mono ?_; rintro e w7 ⟨rfl, hb7⟩; have D7 := B1.trans (hb7.mono B1.size)))
 go_ret
 exact ⟨rfl, D7⟩
end Go.Proofs.Ytbbnagjfjgkgjaa.L
