/- The law of Fill and Extract, walked. -/
import Derived.RangeFuncBox
import Derived.Test.YtbbnagjfjgkgjaaK9Lx16
import Derived.Test.YtbbnagjfjgkgjaaK9Lf1
import Derived.Test.YtbbnagjfjgkgjaaK9Alv
namespace Go.Proofs.Ytbbnagjfjgkgjaa.L
open Go.RowKit Go.Proofs.YtbbnagjfjgkgjaaW.PrintWords Go.Proofs.YtbbnagjfjgkgjaaW.PrintLast Go.Proofs.YtbbnagjfjgkgjaaW.PrintMore
set_option linter.unusedVariables false
set_option linter.unusedSimpArgs false

def Does30 (W H : Int) (l : List Bool) (ws : List Int) (r1 r2 : Int) (d : List Bool) (r4 : Int) : Prop := ∀ (A : Option Addr) (c : Nat) (A2 : Option Addr) (c2 : Nat) (w : World), Kd.C Kd.bool w A l.length l → l.length ≤ c → Kd.C (Kd.int .i64) w A2 ws.length ws → ws.length ≤ c2 →
 Calls Try.prog 30 #[.agg #[.int .i64 W, .int .i64 H, .slice A l.length c], .slice A2 ws.length c2] w fun e w' => ∃ A1 c1, e = .returned (.tuple #[.agg #[.int .i64 r1, .int .i64 r2, .slice A1 d.length c1], .int .i64 r4]) ∧ d.length ≤ c1 ∧ Kd.C Kd.bool w' A1 d.length d ∧ Below w.heap.size w w'
def Does32 (W H : Int) (l : List Bool) (x : List Int) (r : Int) : Prop := ∀ (A : Option Addr) (c : Nat) (w : World), Kd.C Kd.bool w A l.length l → l.length ≤ c →
 Calls Try.prog 32 #[.agg #[.int .i64 W, .int .i64 H, .slice A l.length c]] w fun e w' => ∃ A1 c1, e = .returned (.tuple #[.slice A1 x.length c1, .int .i64 r]) ∧ x.length ≤ c1 ∧ Kd.C (Kd.int .i64) w' A1 x.length x ∧ Below w.heap.size w w'
set_option maxRecDepth 100000 in
set_option maxHeartbeats 8000000 in
theorem law8_small (k : Nat) (W H : Int) (A : Option Addr) (c : Nat) (l : List Bool) (A2 : Option Addr) (c2 : Nat) (ws : List Int) (W1 H1 e1 : Int) (d1 : List Bool) (x : List Int) (e2 : Int) (w : World) (hA : Kd.C Kd.bool w A l.length l) (hc : l.length ≤ c) (hA2 : Kd.C (Kd.int .i64) w A2 ws.length ws) (hc2 : ws.length ≤ c2) (hs : (l.length : Int) ≤ 40000) (hwl : (ws.length : Int) ≤ 4000)
  (h30 : Does30 W H l ws W1 H1 d1 e1) (h31 : barscanref20_Fill.f k W H l ws = some (W1, H1, d1, e1)) (h32 : Does32 W H l x e2) (h33 : barscanref20_Extract.f k W H l = some (x, e2)) (h16 : barscanref20_Same.f k W1 H1 d1 W1 H1 d1 = some true) (h34 : barscanref01_Ints.f k x x = some true) :
  Calls Try.prog 8 #[.agg #[.int .i64 W, .int .i64 H, .slice A l.length c], .slice A2 ws.length c2] w fun e w' => e = .returned (.bool true) ∧ Below w.heap.size w w' := by
 have hu24 := Try.underlying24
 have hsm : barscanlaw20_small.f W H l = some true := by unfold barscanlaw20_small.f; rw [decide_eq_true hs]
 have hwl0 : decide ((4000 : Int) < (ws.length : Int)) = false := decide_eq_false (by omega)
 have hb0 : ∀ o, Below w.heap.size w (w.alloc o) := fun o => (Below.refl _ w).alloc (Nat.le_refl _) _
 have hA0 := Kd.C_below hA (hb0 (.cells #[.int .i64 W, .int .i64 H, .slice A l.length c] 24))
 go_enter Try.func8, Try.ntmps8
 go_wp2_with (first
  | (go_at_call 10; refine (barscanlaw20_small.calls W H A c l true _ hA0 hc hsm).mono ?_; rintro e w1 ⟨rfl, hb⟩; have B1 : Below w.heap.size w w1 := (hb0 _).trans (hb.mono (hb0 (.cells #[.int .i64 W, .int .i64 H, .slice A l.length c] 24)).size); have hm1 := blk_below (blk_new w (.cells #[.int .i64 W, .int .i64 H, .slice A l.length c] 24)) hb; have m0 := (blk_cell hm1 0).trans rfl; have m1 := (blk_cell hm1 1).trans rfl; have m2 := (blk_cell hm1 2).trans rfl)
  | (go_at_call 30; refine (h30 A c A2 c2 w1 (Kd.C_below hA B1) hc (Kd.C_below hA2 B1) hc2).mono ?_; rintro e w2 ⟨A1, c1, rfl, hc1, hC1, hb2⟩; have hm2 := blk_below hm1 hb2; have q0 := (fun o => cell_alloc_a o ((blk_cell hm2 0).trans rfl)); have q1 := (fun o => cell_alloc_a o ((blk_cell hm2 1).trans rfl)); have q2 := (fun o => cell_alloc_a o ((blk_cell hm2 2).trans rfl)); have B2 := B1.trans (hb2.mono B1.size))
  | (go_at_call 31; refine (barscanref20_Fill.calls k W H A c l A2 c2 ws W1 H1 d1 e1 _ (Kd.C_below hA (B2.alloc B2.size _)) hc (Kd.C_below hA2 (B2.alloc B2.size _)) hc2 h31).mono ?_; rintro e w3 ⟨v3, rfl, hR3, hb3⟩; obtain ⟨A3, c3, rfl, hc3, hC3⟩ := Kd.R_reads hR3; have B3 := (B2.alloc B2.size (.cells #[.int .i64 W1, .int .i64 H1, .slice A1 d1.length c1] 24)).trans (hb3.mono (B2.alloc B2.size (.cells #[.int .i64 W1, .int .i64 H1, .slice A1 d1.length c1] 24)).size); have ha3 := blk_below (blk_new w2 (.cells #[.int .i64 W1, .int .i64 H1, .slice A1 d1.length c1] 24)) hb3; have hm3 := blk_below (blk_alloc hm2 _) hb3; have E3 := Kd.C_below (Kd.C_alloc hC1 _) hb3; have s0 := (fun o => cell_alloc_a o ((blk_cell hm3 0).trans rfl)); have s1 := (fun o => cell_alloc_a o ((blk_cell hm3 1).trans rfl)); have s2 := (fun o => cell_alloc_a o ((blk_cell hm3 2).trans rfl)))
  | (go_at_call 32; refine (h32 A c _ (Kd.C_below hA (B3.alloc B3.size _)) hc).mono ?_; rintro e w4 ⟨A4, c4, rfl, hc4, hC4, hb4⟩; have B4 := (B3.alloc B3.size (.cells #[.int .i64 W1, .int .i64 H1, .slice A3 d1.length c3] 24)).trans (hb4.mono (B3.alloc B3.size (.cells #[.int .i64 W1, .int .i64 H1, .slice A3 d1.length c3] 24)).size); have hb4' := blk_below (blk_new w3 (.cells #[.int .i64 W1, .int .i64 H1, .slice A3 d1.length c3] 24)) hb4; have ha4 := blk_below (blk_alloc ha3 _) hb4; have hm4 := blk_below (blk_alloc hm3 _) hb4; have E4 := Kd.C_below (Kd.C_alloc E3 _) hb4; have G4 := Kd.C_below (Kd.C_alloc hC3 _) hb4; have t0 := (blk_cell hm4 0).trans rfl; have t1 := (blk_cell hm4 1).trans rfl; have t2 := (blk_cell hm4 2).trans rfl)
  | (go_at_call 33; refine (barscanref20_Extract.calls k W H A c l x e2 _ (Kd.C_below hA B4) hc h33).mono ?_; rintro e w5 ⟨v5, rfl, hR5, hb5⟩; obtain ⟨A5, c5, rfl, hc5, hC5⟩ := Kd.R_reads hR5; have B5 := B4.trans (hb5.mono B4.size); have ha5 := blk_below ha4 hb5; have hb5' := blk_below hb4' hb5; have E5 := Kd.C_below E4 hb5; have G5 := Kd.C_below G4 hb5; have X5 := Kd.C_below hC4 hb5; have u0 := (blk_cell ha5 0).trans rfl; have u1 := (blk_cell ha5 1).trans rfl; have u2 := (blk_cell ha5 2).trans rfl; have y0 := (blk_cell hb5' 0).trans rfl; have y1 := (blk_cell hb5' 1).trans rfl; have y2 := (blk_cell hb5' 2).trans rfl)
  | (go_at_call 16; refine (barscanref20_Same.calls k W1 H1 A1 c1 d1 W1 H1 A3 c3 d1 true _ E5 hc1 G5 hc3 h16).mono ?_; rintro e w6 ⟨rfl, hb6⟩; have B6 := B5.trans (hb6.mono B5.size); have X6 := Kd.C_below X5 hb6; have Y6 := Kd.C_below hC5 hb6)
  | (go_at_call 34; refine (barscanref01_Ints.calls k A4 c4 x A5 c5 x true _ X6 hc4 Y6 hc5 h34).mono ?_; rintro e w7 ⟨rfl, ⟨nd7, rfl⟩⟩; have B7 := pw_below_drewN B6 nd7)
  | (go_at_call 11; refine (barscanlaw20_alive.calls true _ rfl).mono ?_; rintro e w8 ⟨rfl, hb8⟩; have D8 := B7.trans (hb8.mono B7.size)))
 go_ret
 exact ⟨by simp, D8⟩
set_option maxRecDepth 100000 in
set_option maxHeartbeats 8000000 in
theorem law8_big (W H : Int) (A : Option Addr) (c : Nat) (l : List Bool) (A2 : Option Addr) (n2 c2 : Nat) (w : World) (hA : Kd.C Kd.bool w A l.length l) (hc : l.length ≤ c) (hs : ¬ (l.length : Int) ≤ 40000 ∨ ((l.length : Int) ≤ 40000 ∧ 4000 < (n2 : Int))) :
  Calls Try.prog 8 #[.agg #[.int .i64 W, .int .i64 H, .slice A l.length c], .slice A2 n2 c2] w fun e w' => e = .returned (.bool true) ∧ Below w.heap.size w w' := by
 have hu24 := Try.underlying24
 have hb0 : ∀ o, Below w.heap.size w (w.alloc o) := fun o => (Below.refl _ w).alloc (Nat.le_refl _) _
 have hA0 := Kd.C_below hA (hb0 (.cells #[.int .i64 W, .int .i64 H, .slice A l.length c] 24))
 rcases hs with hs | ⟨hs, hn⟩
 ·have hsm : barscanlaw20_small.f W H l = some false := by unfold barscanlaw20_small.f; rw [decide_eq_false hs]
  go_enter Try.func8, Try.ntmps8
  go_wp2_with (first
   | (go_at_call 10; refine (barscanlaw20_small.calls W H A c l false _ hA0 hc hsm).mono ?_; rintro e w1 ⟨rfl, hb⟩; have B1 : Below w.heap.size w w1 := (hb0 _).trans (hb.mono (hb0 (.cells #[.int .i64 W, .int .i64 H, .slice A l.length c] 24)).size))
   | (go_at_call 11; refine (barscanlaw20_alive.calls true _ rfl).mono ?_; rintro e w7 ⟨rfl, hb7⟩; have D7 := B1.trans (hb7.mono B1.size)))
  go_ret
  exact ⟨rfl, D7⟩
 ·have hsm : barscanlaw20_small.f W H l = some true := by unfold barscanlaw20_small.f; rw [decide_eq_true hs]
  have hwl0 : decide ((4000 : Int) < (n2 : Int)) = true := decide_eq_true hn
  clear hs
  go_enter Try.func8, Try.ntmps8
  go_wp2_with (first
   | (go_at_call 10; refine (barscanlaw20_small.calls W H A c l true _ hA0 hc hsm).mono ?_; rintro e w1 ⟨rfl, hb⟩; have B1 : Below w.heap.size w w1 := (hb0 _).trans (hb.mono (hb0 (.cells #[.int .i64 W, .int .i64 H, .slice A l.length c] 24)).size))
   | (go_at_call 11; refine (barscanlaw20_alive.calls true _ rfl).mono ?_; rintro e w7 ⟨rfl, hb7⟩; have D7 := B1.trans (hb7.mono B1.size)))
  go_ret
  exact ⟨rfl, D7⟩
end Go.Proofs.Ytbbnagjfjgkgjaa.L
