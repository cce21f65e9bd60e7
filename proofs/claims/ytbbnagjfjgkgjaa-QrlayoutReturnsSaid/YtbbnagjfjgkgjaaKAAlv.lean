/- The chapter's examples, as qrlayout answers them: told by the kernel. -/
import Derived.Test.YtbbnagjfjgkgjaaKAPta
import Derived.Test.YtbbnagjfjgkgjaaKALx12
import Derived.Test.YtbbnagjfjgkgjaaKALx6
import Derived.KernelRfl
namespace Go.Proofs.Ytbbnagjfjgkgjaa.L
open Go.RowKit Go.Proofs.YtbbnagjfjgkgjaaW.PrintWords Go.Proofs.YtbbnagjfjgkgjaaW.PrintLast Go.Proofs.YtbbnagjfjgkgjaaW.PrintMore
def pts1 : List S45 := [
  ⟨20, 20⟩, ⟨19, 20⟩, ⟨20, 19⟩, ⟨19, 19⟩, ⟨20, 18⟩, ⟨19, 18⟩, ⟨20, 17⟩, ⟨19, 17⟩, ⟨20, 16⟩, ⟨19, 16⟩, ⟨20, 15⟩, ⟨19, 15⟩, ⟨20, 14⟩, ⟨19, 14⟩, ⟨20, 13⟩, ⟨19, 13⟩,
  ⟨20, 12⟩, ⟨19, 12⟩, ⟨20, 11⟩, ⟨19, 11⟩, ⟨20, 10⟩, ⟨19, 10⟩, ⟨20, 9⟩, ⟨19, 9⟩, ⟨18, 9⟩, ⟨17, 9⟩, ⟨18, 10⟩, ⟨17, 10⟩, ⟨18, 11⟩, ⟨17, 11⟩, ⟨18, 12⟩, ⟨17, 12⟩,
  ⟨18, 13⟩, ⟨17, 13⟩, ⟨18, 14⟩, ⟨17, 14⟩, ⟨18, 15⟩, ⟨17, 15⟩, ⟨18, 16⟩, ⟨17, 16⟩, ⟨18, 17⟩, ⟨17, 17⟩, ⟨18, 18⟩, ⟨17, 18⟩, ⟨18, 19⟩, ⟨17, 19⟩, ⟨18, 20⟩, ⟨17, 20⟩,
  ⟨16, 20⟩, ⟨15, 20⟩, ⟨16, 19⟩, ⟨15, 19⟩, ⟨16, 18⟩, ⟨15, 18⟩, ⟨16, 17⟩, ⟨15, 17⟩, ⟨16, 16⟩, ⟨15, 16⟩, ⟨16, 15⟩, ⟨15, 15⟩, ⟨16, 14⟩, ⟨15, 14⟩, ⟨16, 13⟩, ⟨15, 13⟩,
  ⟨16, 12⟩, ⟨15, 12⟩, ⟨16, 11⟩, ⟨15, 11⟩, ⟨16, 10⟩, ⟨15, 10⟩, ⟨16, 9⟩, ⟨15, 9⟩, ⟨14, 9⟩, ⟨13, 9⟩, ⟨14, 10⟩, ⟨13, 10⟩, ⟨14, 11⟩, ⟨13, 11⟩, ⟨14, 12⟩, ⟨13, 12⟩,
  ⟨14, 13⟩, ⟨13, 13⟩, ⟨14, 14⟩, ⟨13, 14⟩, ⟨14, 15⟩, ⟨13, 15⟩, ⟨14, 16⟩, ⟨13, 16⟩, ⟨14, 17⟩, ⟨13, 17⟩, ⟨14, 18⟩, ⟨13, 18⟩, ⟨14, 19⟩, ⟨13, 19⟩, ⟨14, 20⟩, ⟨13, 20⟩,
  ⟨12, 20⟩, ⟨11, 20⟩, ⟨12, 19⟩, ⟨11, 19⟩, ⟨12, 18⟩, ⟨11, 18⟩, ⟨12, 17⟩, ⟨11, 17⟩, ⟨12, 16⟩, ⟨11, 16⟩, ⟨12, 15⟩, ⟨11, 15⟩, ⟨12, 14⟩, ⟨11, 14⟩, ⟨12, 13⟩, ⟨11, 13⟩,
  ⟨12, 12⟩, ⟨11, 12⟩, ⟨12, 11⟩, ⟨11, 11⟩, ⟨12, 10⟩, ⟨11, 10⟩, ⟨12, 9⟩, ⟨11, 9⟩, ⟨12, 8⟩, ⟨11, 8⟩, ⟨12, 7⟩, ⟨11, 7⟩, ⟨12, 5⟩, ⟨11, 5⟩, ⟨12, 4⟩, ⟨11, 4⟩,
  ⟨12, 3⟩, ⟨11, 3⟩, ⟨12, 2⟩, ⟨11, 2⟩, ⟨12, 1⟩, ⟨11, 1⟩, ⟨12, 0⟩, ⟨11, 0⟩, ⟨10, 0⟩, ⟨9, 0⟩, ⟨10, 1⟩, ⟨9, 1⟩, ⟨10, 2⟩, ⟨9, 2⟩, ⟨10, 3⟩, ⟨9, 3⟩,
  ⟨10, 4⟩, ⟨9, 4⟩, ⟨10, 5⟩, ⟨9, 5⟩, ⟨10, 7⟩, ⟨9, 7⟩, ⟨10, 8⟩, ⟨9, 8⟩, ⟨10, 9⟩, ⟨9, 9⟩, ⟨10, 10⟩, ⟨9, 10⟩, ⟨10, 11⟩, ⟨9, 11⟩, ⟨10, 12⟩, ⟨9, 12⟩,
  ⟨10, 13⟩, ⟨9, 13⟩, ⟨10, 14⟩, ⟨9, 14⟩, ⟨10, 15⟩, ⟨9, 15⟩, ⟨10, 16⟩, ⟨9, 16⟩, ⟨10, 17⟩, ⟨9, 17⟩, ⟨10, 18⟩, ⟨9, 18⟩, ⟨10, 19⟩, ⟨9, 19⟩, ⟨10, 20⟩, ⟨9, 20⟩,
  ⟨8, 12⟩, ⟨7, 12⟩, ⟨8, 11⟩, ⟨7, 11⟩, ⟨8, 10⟩, ⟨7, 10⟩, ⟨8, 9⟩, ⟨7, 9⟩, ⟨5, 9⟩, ⟨4, 9⟩, ⟨5, 10⟩, ⟨4, 10⟩, ⟨5, 11⟩, ⟨4, 11⟩, ⟨5, 12⟩, ⟨4, 12⟩,
  ⟨3, 12⟩, ⟨2, 12⟩, ⟨3, 11⟩, ⟨2, 11⟩, ⟨3, 10⟩, ⟨2, 10⟩, ⟨3, 9⟩, ⟨2, 9⟩, ⟨1, 9⟩, ⟨0, 9⟩, ⟨1, 10⟩, ⟨0, 10⟩, ⟨1, 11⟩, ⟨0, 11⟩, ⟨1, 12⟩, ⟨0, 12⟩]
def dkN : List Nat := [
  1, 1, 1, 1, 1, 1, 1, 0, 0, 0, 0, 0, 0, 0, 1, 1, 1, 1, 1, 1, 1,
  1, 0, 0, 0, 0, 0, 1, 0, 0, 0, 0, 0, 0, 0, 1, 0, 0, 0, 0, 0, 1,
  1, 0, 1, 1, 1, 0, 1, 0, 0, 0, 0, 0, 0, 0, 1, 0, 1, 1, 1, 0, 1,
  1, 0, 1, 1, 1, 0, 1, 0, 0, 0, 0, 0, 0, 0, 1, 0, 1, 1, 1, 0, 1,
  1, 0, 1, 1, 1, 0, 1, 0, 0, 0, 0, 0, 0, 0, 1, 0, 1, 1, 1, 0, 1,
  1, 0, 0, 0, 0, 0, 1, 0, 0, 0, 0, 0, 0, 0, 1, 0, 0, 0, 0, 0, 1,
  1, 1, 1, 1, 1, 1, 1, 0, 1, 0, 1, 0, 1, 0, 1, 1, 1, 1, 1, 1, 1,
  0, 0, 0, 0, 0, 0, 0, 0, 0, 0, 0, 0, 0, 0, 0, 0, 0, 0, 0, 0, 0,
  0, 0, 0, 0, 0, 0, 1, 0, 0, 0, 0, 0, 0, 0, 0, 0, 0, 0, 0, 0, 0,
  0, 0, 0, 0, 0, 0, 0, 0, 0, 0, 0, 0, 0, 0, 0, 0, 0, 0, 0, 0, 0,
  0, 0, 0, 0, 0, 0, 1, 0, 0, 0, 0, 0, 0, 0, 0, 0, 0, 0, 0, 0, 0,
  0, 0, 0, 0, 0, 0, 0, 0, 0, 0, 0, 0, 0, 0, 0, 0, 0, 0, 0, 0, 0,
  0, 0, 0, 0, 0, 0, 1, 0, 0, 0, 0, 0, 0, 0, 0, 0, 0, 0, 0, 0, 0,
  0, 0, 0, 0, 0, 0, 0, 0, 1, 0, 0, 0, 0, 0, 0, 0, 0, 0, 0, 0, 0,
  1, 1, 1, 1, 1, 1, 1, 0, 0, 0, 0, 0, 0, 0, 0, 0, 0, 0, 0, 0, 0,
  1, 0, 0, 0, 0, 0, 1, 0, 0, 0, 0, 0, 0, 0, 0, 0, 0, 0, 0, 0, 0,
  1, 0, 1, 1, 1, 0, 1, 0, 0, 0, 0, 0, 0, 0, 0, 0, 0, 0, 0, 0, 0,
  1, 0, 1, 1, 1, 0, 1, 0, 0, 0, 0, 0, 0, 0, 0, 0, 0, 0, 0, 0, 0,
  1, 0, 1, 1, 1, 0, 1, 0, 0, 0, 0, 0, 0, 0, 0, 0, 0, 0, 0, 0, 0,
  1, 0, 0, 0, 0, 0, 1, 0, 0, 0, 0, 0, 0, 0, 0, 0, 0, 0, 0, 0, 0,
  1, 1, 1, 1, 1, 1, 1, 0, 0, 0, 0, 0, 0, 0, 0, 0, 0, 0, 0, 0, 0]
def sgN : List Nat := [
  1, 1, 1, 1, 1, 1, 1, 0, 0, 0, 0, 0, 0, 0, 1, 1, 1, 1, 1, 1, 1,
  1, 0, 0, 0, 0, 0, 1, 0, 1, 0, 0, 0, 0, 0, 1, 0, 0, 0, 0, 0, 1,
  1, 0, 1, 1, 1, 0, 1, 0, 0, 0, 0, 0, 0, 0, 1, 0, 1, 1, 1, 0, 1,
  1, 0, 1, 1, 1, 0, 1, 0, 0, 0, 0, 0, 0, 0, 1, 0, 1, 1, 1, 0, 1,
  1, 0, 1, 1, 1, 0, 1, 0, 1, 0, 0, 0, 0, 0, 1, 0, 1, 1, 1, 0, 1,
  1, 0, 0, 0, 0, 0, 1, 0, 0, 0, 0, 0, 0, 0, 1, 0, 0, 0, 0, 0, 1,
  1, 1, 1, 1, 1, 1, 1, 0, 1, 0, 1, 0, 1, 0, 1, 1, 1, 1, 1, 1, 1,
  0, 0, 0, 0, 0, 0, 0, 0, 0, 0, 0, 0, 0, 0, 0, 0, 0, 0, 0, 0, 0,
  1, 0, 1, 0, 1, 0, 1, 0, 0, 0, 0, 0, 0, 0, 0, 0, 1, 0, 0, 1, 0,
  0, 0, 0, 0, 0, 0, 0, 0, 0, 0, 0, 0, 0, 0, 0, 0, 0, 0, 0, 0, 0,
  0, 0, 0, 0, 0, 0, 1, 0, 0, 0, 0, 0, 0, 0, 0, 0, 0, 0, 0, 0, 0,
  0, 0, 0, 0, 0, 0, 0, 0, 0, 0, 0, 0, 0, 0, 0, 0, 0, 0, 0, 0, 0,
  0, 0, 0, 0, 0, 0, 1, 0, 0, 0, 0, 0, 0, 0, 0, 0, 0, 0, 0, 0, 0,
  0, 0, 0, 0, 0, 0, 0, 0, 1, 0, 0, 0, 0, 0, 0, 0, 0, 0, 0, 0, 0,
  1, 1, 1, 1, 1, 1, 1, 0, 0, 0, 0, 0, 0, 0, 0, 0, 0, 0, 0, 0, 0,
  1, 0, 0, 0, 0, 0, 1, 0, 0, 0, 0, 0, 0, 0, 0, 0, 0, 0, 0, 0, 0,
  1, 0, 1, 1, 1, 0, 1, 0, 1, 0, 0, 0, 0, 0, 0, 0, 0, 0, 0, 0, 0,
  1, 0, 1, 1, 1, 0, 1, 0, 0, 0, 0, 0, 0, 0, 0, 0, 0, 0, 0, 0, 0,
  1, 0, 1, 1, 1, 0, 1, 0, 1, 0, 0, 0, 0, 0, 0, 0, 0, 0, 0, 0, 0,
  1, 0, 0, 0, 0, 0, 1, 0, 0, 0, 0, 0, 0, 0, 0, 0, 0, 0, 0, 0, 0,
  1, 1, 1, 1, 1, 1, 1, 0, 1, 0, 0, 0, 0, 0, 0, 0, 0, 0, 0, 0, 0]
def dk1 : List Bool := dkN.map (fun n => n == 1)
def sg1 : List Bool := sgN.map (fun n => n == 1)
set_option maxRecDepth 100000
theorem ev_path : qrlayout_Path.f 100 1 = some (pts1, 0) := by kernel_rfl
theorem ev_blank : qrlayout_Blank.f 1000 1 = some (21, 21, dk1, 0) := by kernel_rfl
theorem ev_faults : qrlayout_Faults.f 1000 21 21 (List.replicate 441 false) = some (106, 0) := by kernel_rfl
theorem ev_sign : qrlayout_Sign.f 1000 21 21 dk1 2 0 = some (21, 21, sg1, 0) := by kernel_rfl
theorem ev_read : qrlayout_Read.f 1000 21 21 sg1 = some (1, 2, 0, 0) := by kernel_rfl

theorem cell_alloc_a {W : World} {a : Addr} {v : Value} (o : Obj) (h : W.cell? a = some v) : (W.alloc o).cell? a = some v := cell_kept h (World.grownBy_alloc W o none) (fun r e => by cases e)
def barscanlaw20_alive.f : Option (Bool) := some true
set_option maxHeartbeats 8000000 in
theorem barscanlaw20_alive.calls (r : Bool) (w : World) (h : barscanlaw20_alive.f = some r) :
    Calls Try.prog 11 #[] w fun e w' => e = .returned (.bool r) ∧ Below w.heap.size w w' := by
  obtain rfl := Option.some.inj h
  have hu24 := Try.underlying24
  have hu45 := Try.underlying45
  have hn208 : pts1.length = 208 := rfl
  go_enter Try.func11, Try.ntmps11
  go_wp2_with (first
    | (go_at_call 25; refine (qrlayout_Path.calls 100 1 pts1 0 _ ev_path).mono ?_; rintro e w1 ⟨v1, rfl, hR1, hb1⟩; obtain ⟨A1, c1, rfl, hc1, hC1⟩ := Kd.R_reads hR1; clear hR1)
    | (go_at_call 12; refine (qrlayout_Blank.calls 1000 1 21 21 dk1 0 _ ev_blank).mono ?_; rintro e w2 ⟨v2, rfl, hR2, hb2⟩; obtain ⟨B2, c2, rfl, hc2, hC2⟩ := Kd.R_reads hR2; clear hR2; have hB2 := hb1.trans (hb2.mono hb1.size); have hD1 := Kd.C_below hC1 hb2; clear hb2)
    | ((with_reducible refine gate_dst (N := 22) rfl ?_); refine Kd.R_make Kd.bool _ 4 rfl (N := 22) rfl 22 _ _ rfl (441 : Int) rfl rfl Try.underlying22 (.bool false) 1 info4 rfl (by decide) (by omega) false (ok := fun _ => True) (okp := fun _ => True) rfl (fun _ hk => hk) trivial (by omega) (by decide) (Below.refl _ _) (Nat.le_refl _) ?_; intro v3 w3 hR3 hb3 _ _; obtain ⟨B3, c3, rfl, hc3, hC3⟩ := Kd.R_reads hR3; clear hR3)
    | (go_at_call 14; refine (show Calls Try.prog 14 #[.agg #[.int .i64 21, .int .i64 21, .slice B3 441 c3]] _ _ from (qrlayout_Faults.calls 1000 21 21 B3 c3 (List.replicate 441 false) 106 0 _ hC3 hc3 ev_faults)).mono ?_; rintro e w4 ⟨rfl, hb4⟩; have hbA := (hB2.alloc hB2.size ((.cells #[.int .i64 21, .int .i64 21, .slice B2 dk1.length c2] 24))); have hb34 := hb3.trans (hb4.mono hb3.size); have hB4 : Below w.heap.size w w4 := hbA.trans (hb34.mono (Nat.le_trans hB2.size (by simp))); have hD2 := Kd.C_below (Kd.C_alloc hD1 ((.cells #[.int .i64 21, .int .i64 21, .slice B2 dk1.length c2] 24))) hb34; have hE2 := Kd.C_below (Kd.C_alloc hC2 ((.cells #[.int .i64 21, .int .i64 21, .slice B2 dk1.length c2] 24))) hb34; have m0 : w4.cell? ⟨w2.heap.size, 0, none⟩ = some (.int .i64 21) := ((hb34.cell (p := ⟨w2.heap.size, 0, none⟩) (by simp)).trans (by rw [World.cell?_alloc_at _ _ _ _ rfl]; rfl)); have m1 : w4.cell? ⟨w2.heap.size, 1, none⟩ = some (.int .i64 21) := ((hb34.cell (p := ⟨w2.heap.size, 1, none⟩) (by simp)).trans (by rw [World.cell?_alloc_at _ _ _ _ rfl]; rfl)); have m2 : w4.cell? ⟨w2.heap.size, 2, none⟩ = some (.slice B2 dk1.length c2) := ((hb34.cell (p := ⟨w2.heap.size, 2, none⟩) (by simp)).trans (by rw [World.cell?_alloc_at _ _ _ _ rfl]; rfl)); clear hb3 hb4 hb34 hbA hC3)
    | (go_at_call 17; refine (qrlayout_Sign.calls 1000 21 21 B2 c2 dk1 2 0 21 21 sg1 0 _ hE2 hc2 ev_sign).mono ?_; rintro e w5 ⟨v5, rfl, hR5, hb5⟩; obtain ⟨B4, c4, rfl, hc4, hC4⟩ := Kd.R_reads hR5; clear hR5; have hB5 := hB4.trans (hb5.mono hB4.size); have hD3 := Kd.C_below hD2 hb5; clear hb5)
    | (go_at_call 19; refine (qrlayout_Read.calls 1000 21 21 B4 c4 sg1 1 2 0 0 _ (Kd.C_alloc hC4 _) hc4 ev_read).mono ?_; rintro e w6 ⟨rfl, hb6⟩; have hbC := (hB5.alloc hB5.size ((.cells #[.int .i64 21, .int .i64 21, .slice B4 sg1.length c4] 24))); have hB6 : Below w.heap.size w w6 := hbC.trans (hb6.mono (Nat.le_trans hB5.size (by simp))); have hD4 := Kd.C_below (Kd.C_alloc hD3 ((.cells #[.int .i64 21, .int .i64 21, .slice B4 sg1.length c4] 24))) hb6; obtain ⟨ad, rfl, x00, x01⟩ := at_T45 hD4 0 (by decide) (by decide); obtain ⟨ad', ead, x20, x21⟩ := at_T45 hD4 2 (by decide) (by decide); cases ead; replace x00 : w6.cell? (ad.add 0) = some (.int .i64 20) := x00; replace x01 : w6.cell? ⟨ad.block, ad.off + 0 + 1, none⟩ = some (.int .i64 20) := x01; replace x20 : w6.cell? (ad.add 4) = some (.int .i64 20) := x20; replace x21 : w6.cell? ⟨ad.block, ad.off + 4 + 1, none⟩ = some (.int .i64 19) := x21; have y00 : w6.cell? ad = some (.int .i64 20) := x00; simp only [Nat.add_zero] at x01; have y20 : w6.cell? ⟨ad.block, ad.off + 4, none⟩ = some (.int .i64 20) := x20; clear x00 x20)
    )
  all_goals (refine bodyPost_ret (results_tmp rfl _ _ _) rfl ?_; exact ⟨rfl, hB6⟩)
end Go.Proofs.Ytbbnagjfjgkgjaa.L
