-- Written by a program of this session out of the kit's print of the loaded functions (see wip/).
import Derived.Test.YtbbnagjfjgkgjaaKALx0
import Derived.Test.YtbbnagjfjgkgjaaKACen
namespace Go.Proofs.Ytbbnagjfjgkgjaa.L
open Go.RowKit Go.Proofs.YtbbnagjfjgkgjaaW.PrintWords Go.Proofs.YtbbnagjfjgkgjaaW.PrintLast Go.Proofs.YtbbnagjfjgkgjaaW.PrintMore
attribute [local go_sem] max2_int min2_int max_two min_two max_three min_three max_four min_four   -- for this text's walks alone
set_option linter.unusedVariables false
set_option linter.unusedSimpArgs false

def barscanlaw20_small.f (a0_0 : Int) (a0_1 : Int) (l0_2 : List Bool) : Option (Bool) := some (decide ((l0_2.length : Int) ≤ 40000))
set_option maxHeartbeats 8000000 in
set_option maxRecDepth 100000 in
theorem barscanlaw20_small.calls (a0_0 : Int) (a0_1 : Int) (A0_2 : Option Addr) (c0_2 : Nat) (l0_2 : List Bool) (r : Bool) (w : World) (hr0_2 : Kd.C Kd.bool w A0_2 l0_2.length l0_2) (hc0_2 : l0_2.length ≤ c0_2) (h : barscanlaw20_small.f a0_0 a0_1 l0_2 = some r) :
  Calls Try.prog 10 #[.agg #[.int .i64 a0_0, .int .i64 a0_1, .slice A0_2 l0_2.length c0_2]] w fun e w' => e = .returned (.bool r) ∧ Below w.heap.size w w' := by
 have hu24 := Try.underlying24
 have HR0_2 := Aside0.mk hr0_2
 have HC0_2 := Aside0.mk hc0_2
 clear hr0_2 hc0_2
 have HB := Aside0.mk (Below.refl w.heap.size w)
 have H : (some (decide ((l0_2.length : Int) ≤ 40000))) = some r := h
 clear h
 obtain rfl := Option.some.inj H
 go_enter Try.func10, Try.ntmps10
 go_wp2_with (first | ((with_reducible refine gate_dst (N := 1) rfl ?_); refine boxE (N := 1) (cs := #[.int .i64 a0_0, .int .i64 a0_1, .slice A0_2 l0_2.length c0_2]) (t := 24) ?_; intro gb101 hg w2 hbox hb; have BK101 := Aside0.mk (hbox); have GW101 := Aside0.mk ((szA hg HB.out : w.heap.size ≤ gb101)); have GE101 := Aside0.mk ((szA hg HB.out : w.heap.size ≤ gb101)); replace HB := Aside0.mk (below_step (belA HB.out) hb); clear hb hbox hg; obtain ⟨hcz3_0, hcz3_1, hcz3_2, hfz3_0, hfz3_1, hfz3_2⟩ := bk3 BK101.out))
 go_ret
 exact ⟨errA, belA HB.out⟩

def qrversion_valid.f (a0 : Int) : Option (Bool) := if a0 ≥ 1 then (some (decide (a0 ≤ 40))) else (some false)
set_option maxHeartbeats 8000000 in
set_option maxRecDepth 100000 in
theorem qrversion_valid.calls (a0 : Int) (r : Bool) (w : World) (h : qrversion_valid.f a0 = some r) :
  Calls Try.prog 85 #[.int .i64 a0] w fun e w' => e = .returned (.bool r) ∧ Drawn0 w w' := by
 have H : (if a0 ≥ 1 then (some (decide (a0 ≤ 40))) else (some false)) = some r := h
 clear h
 by_cases c2 : a0 ≥ 1
 ·rw [if_pos c2] at H
  have c2b0 : decide (1 ≤ a0) = true := decide_eq_true c2
  clear c2
  obtain rfl := Option.some.inj H
  go_enter Try.func85, Try.ntmps85
  go_wp2
  go_ret
  exact ⟨by first | rfl | (simp; done) | (simp [*]; done), by repeat (first | exact Drawn0.refl _ | apply Drawn0.step)⟩
 ·rw [if_neg c2] at H
  have c2b0 : decide (1 ≤ a0) = false := decide_eq_false c2
  clear c2
  obtain rfl := Option.some.inj H
  go_enter Try.func85, Try.ntmps85
  go_wp2
  go_ret
  exact ⟨by first | rfl | (simp; done) | (simp [*]; done), by repeat (first | exact Drawn0.refl _ | apply Drawn0.step)⟩

def qrversion_Size.f (a0 : Int) : Option (Int × Int) := (qrversion_valid.f a0).bind fun t102 => (if t102 = true then (some (wrap64 (17 + (wrap64 (4 * a0))), 0)) else (some (0, 14)))
set_option maxHeartbeats 8000000 in
set_option maxRecDepth 100000 in
theorem qrversion_Size.calls (a0 : Int) (r1 : Int) (r2 : Int) (w : World) (h : qrversion_Size.f a0 = some (r1, r2)) :
  Calls Try.prog 69 #[.int .i64 a0] w fun e w' => e = .returned (.tuple #[.int .i64 r1, .int .i64 r2]) ∧ Drawn0 w w' := by
 have H : ((qrversion_valid.f a0).bind fun t102 => (if t102 = true then (some (wrap64 (17 + (wrap64 (4 * a0))), 0)) else (some (0, 14)))) = some (r1, r2) := h
 clear h
 replace H := Option.bind_eq_some_iff.mp H
 obtain ⟨t102, A20, H⟩ := H
 replace H : (if t102 = true then (some (wrap64 (17 + (wrap64 (4 * a0))), 0)) else (some (0, 14))) = some (r1, r2) := H
 have A2 := Aside0.mk A20
 clear A20
 by_cases c3 : t102 = true
 ·subst c3
  have H1 : (some (wrap64 (17 + (wrap64 (4 * a0))), 0)) = some (r1, r2) := by rw [if_pos rfl] at H; exact H
  clear H
  have H := H1
  clear H1
  simp only [Option.some.injEq, Prod.mk.injEq] at H
  obtain ⟨rfl, rfl⟩ := H
  go_enter Try.func69, Try.ntmps69
  go_wp2_with (first | ((with_reducible refine gate_callee (f := 85) rfl ?_); refine goesL_ (some 5) rfl rfl Try.func85 (by kernel_rfl) rfl #[.int .i64 a0] rfl argA ?_; (with_reducible refine (qrversion_valid.calls a0 true _ A2.out).mono ?_); rintro e w' ⟨rfl, ⟨nd, rfl⟩⟩; refine ⟨_, rfl, ?_⟩))
  go_ret2
  exact ⟨by first | rfl | (simp; done) | (simp [*]; done), by repeat (first | exact Drawn0.refl _ | apply Drawn0.step)⟩
 ·replace c3 := Bool.eq_false_iff.mpr c3
  subst c3
  have H1 : (some (0, 14)) = some (r1, r2) := by rw [if_neg (show ¬ (false = true) by decide)] at H; exact H
  clear H
  have H := H1
  clear H1
  simp only [Option.some.injEq, Prod.mk.injEq] at H
  obtain ⟨rfl, rfl⟩ := H
  go_enter Try.func69, Try.ntmps69
  go_wp2_with (first | ((with_reducible refine gate_callee (f := 85) rfl ?_); refine goesL_ (some 5) rfl rfl Try.func85 (by kernel_rfl) rfl #[.int .i64 a0] rfl argA ?_; (with_reducible refine (qrversion_valid.calls a0 false _ A2.out).mono ?_); rintro e w' ⟨rfl, ⟨nd, rfl⟩⟩; refine ⟨_, rfl, ?_⟩))
  go_ret2
  exact ⟨by first | rfl | (simp; done) | (simp [*]; done), by repeat (first | exact Drawn0.refl _ | apply Drawn0.step)⟩

mutual
def barscanref17_Aligns.j0 : Nat → Int → Bool → Option (List Int × Int)
 | 0, _, _ => none
 | k + 1, x0, x13 => if x13 = true then (some (([] : List Int), 14)) else (if x0 = 1 then (some (([] : List Int), 0)) else (if (wrap64 ((wrap64 (4 * (wrap64 ((wrap64 (Int.tdiv x0 7)) + 2)))) - 4)) = 0 then (none) else (barscanref17_Aligns.l0 k x0 (wrap64 ((wrap64 (Int.tdiv x0 7)) + 2)) (wrap64 ((wrap64 (Int.tdiv (wrap64 ((wrap64 ((wrap64 (8 * x0)) + (wrap64 (3 * (wrap64 ((wrap64 (Int.tdiv x0 7)) + 2)))))) + 5)) (wrap64 ((wrap64 (4 * (wrap64 ((wrap64 (Int.tdiv x0 7)) + 2)))) - 4)))) * 2)) (([6] : List Int)) 1)))
def barscanref17_Aligns.l0 : Nat → Int → Int → Int → List Int → Int → Option (List Int × Int)
 | 0, _, _, _, _, _ => none
 | k + 1, x0, x4, x5, x6, x7 => if x7 < x4 then (if x6.length < 17592186044416 then (barscanref17_Aligns.l0 k x0 x4 x5 (x6 ++ [wrap64 ((wrap64 ((wrap64 (4 * x0)) + 10)) - (wrap64 (x5 * (wrap64 ((wrap64 (x4 - 1)) - x7)))))]) (wrap64 (x7 + 1))) else (none)) else (some (x6, 0))
end
def barscanref17_Aligns.f (k : Nat) (a0 : Int) : Option (List Int × Int) := if a0 < 1 then (barscanref17_Aligns.j0 k a0 true) else (barscanref17_Aligns.j0 k a0 (decide (a0 > 40)))
theorem barscanref17_Aligns.mono_l : ∀ k, (∀ y0 y1, LeO (barscanref17_Aligns.j0 k y0 y1) (barscanref17_Aligns.j0 (k + 1) y0 y1)) ∧ (∀ y0 y1 y2 y3 y4, LeO (barscanref17_Aligns.l0 k y0 y1 y2 y3 y4) (barscanref17_Aligns.l0 (k + 1) y0 y1 y2 y3 y4))
 | 0 => ⟨fun _ _ r h => by simp [barscanref17_Aligns.j0] at h, fun _ _ _ _ _ r h => by simp [barscanref17_Aligns.l0] at h⟩
 | k + 1 => by
  obtain ⟨ih0, ih1⟩ := barscanref17_Aligns.mono_l k
  refine ⟨?_, ?_⟩
  ·intro y0 y1
   unfold barscanref17_Aligns.j0
   repeat' first
   | (with_reducible exact ih0 _ _)
   | (with_reducible exact ih1 _ _ _ _ _)
   | (with_reducible exact LeO.refl _)
   | (with_reducible exact LeO.none _)
   | (with_reducible refine LeO.ite ?_ ?_)
   | (with_reducible refine LeO.bind ?_ (fun _ => ?_))
   | exact ih0 _ _
   | exact ih1 _ _ _ _ _
   | exact LeO.none _
   | refine LeO.ite ?_ ?_
   | refine LeO.bind ?_ (fun _ => ?_)
  ·intro y0 y1 y2 y3 y4
   unfold barscanref17_Aligns.l0
   repeat' first
   | (with_reducible exact ih0 _ _)
   | (with_reducible exact ih1 _ _ _ _ _)
   | (with_reducible exact LeO.refl _)
   | (with_reducible exact LeO.none _)
   | (with_reducible refine LeO.ite ?_ ?_)
   | (with_reducible refine LeO.bind ?_ (fun _ => ?_))
   | exact ih0 _ _
   | exact ih1 _ _ _ _ _
   | exact LeO.none _
   | refine LeO.ite ?_ ?_
   | refine LeO.bind ?_ (fun _ => ?_)
theorem barscanref17_Aligns.mono : ∀ a0 k, LeO (barscanref17_Aligns.f k a0) (barscanref17_Aligns.f (k + 1) a0) := by
 intro a0 k
 obtain ⟨ih0, ih1⟩ := barscanref17_Aligns.mono_l k
 unfold barscanref17_Aligns.f
 repeat' first
   | (with_reducible exact ih0 _ _)
   | (with_reducible exact ih1 _ _ _ _ _)
   | (with_reducible exact LeO.refl _)
   | (with_reducible exact LeO.none _)
   | (with_reducible refine LeO.ite ?_ ?_)
   | (with_reducible refine LeO.bind ?_ (fun _ => ?_))
   | exact ih0 _ _
   | exact ih1 _ _ _ _ _
   | exact LeO.none _
   | refine LeO.ite ?_ ?_
   | refine LeO.bind ?_ (fun _ => ?_)
def alg (v : Int) : List Int := (ctRows.getD (v - 1).toNat ("", [])).2
def qrversion_Aligns.f (_k : Nat) (a0 : Int) : Option (List Int × Int) := if 1 ≤ a0 ∧ a0 ≤ 40 then some (alg a0, 0) else some ([], 14)
theorem valid_of (a0 : Int) : qrversion_valid.f a0 = some (decide (1 ≤ a0 ∧ a0 ≤ 40)) := by
 unfold qrversion_valid.f
 by_cases h : a0 ≥ 1 <;> by_cases h2 : a0 ≤ 40 <;> simp [h, h2]
set_option maxHeartbeats 8000000 in
set_option maxRecDepth 100000 in
theorem qrversion_Aligns.calls (k : Nat) (a0 : Int) (r1 : List Int) (r2 : Int) (w : World) (h : qrversion_Aligns.f k a0 = some (r1, r2)) :
  Calls Try.prog 70 #[.int .i64 a0] w fun e w' => ∃ v0_ : Value, e = .returned (.tuple #[v0_, .int .i64 r2]) ∧ Kd.R (Kd.int .i64) 3 w' w.heap.size (fun _ => True) v0_ r1 ∧ Below w.heap.size w w' := by
 unfold qrversion_Aligns.f at h
 have hval := Aside0.mk (valid_of a0)
 by_cases hv : 1 ≤ a0 ∧ a0 ≤ 40
 ·rw [if_pos hv] at h
  simp only [Option.some.injEq, Prod.mk.injEq] at h
  obtain ⟨rfl, rfl⟩ := h
  rw [decide_eq_true hv] at hval
  obtain ⟨n, rfl⟩ : ∃ n : Nat, a0 = (n : Int) + 1 := ⟨(a0 - 1).toNat, by omega⟩
  have hn : n < 40 := by omega
  clear hv
  go_enter Try.func70, Try.ntmps70
  go_wp2_with (first | (go_at_call 85; refine (qrversion_valid.calls _ true _ hval.out).mono ?_; rintro e w1 ⟨rfl, hd1⟩; have HD1 := Aside0.mk hd1; clear hd1) | (go_at_call 88; refine (centers_any _).mono ?_; rintro e w2 ⟨cells, rfl, hrow, hB⟩; have HX := run_idx_sl 115 40 cells n w2 Try.underlying115 hn (by rw [hrow.1]; exact hn); have HR := Aside0.mk hrow; have HB2 := Aside0.mk hB; clear hrow hB))
  go_ret2
  refine ⟨cells[n]?.getD undef, rfl, ?_, below_then HD1.out.below HD1.out.below.size HB2.out⟩
  have hr := HR.out.2 n hn
  rw [show alg ((n : Int) + 1) = (ctRows[n]'(by simpa [ctRows] using hn)).2 by
   unfold alg
   rw [show ((n : Int) + 1 - 1).toNat = n by omega, List.getD_eq_getElem?_getD, List.getElem?_eq_getElem (by simpa [ctRows] using hn)]
   rfl]
  exact Kd.R_lower hr HD1.out.below.size
 ·rw [if_neg hv] at h
  simp only [Option.some.injEq, Prod.mk.injEq] at h
  obtain ⟨rfl, rfl⟩ := h
  rw [decide_eq_false hv] at hval
  clear hv
  go_enter Try.func70, Try.ntmps70
  go_wp2_with (go_at_call 85; refine (qrversion_valid.calls _ false _ hval.out).mono ?_; rintro e w1 ⟨rfl, hd1⟩; have HD1 := Aside0.mk hd1; clear hd1)
  go_ret2
  exact ⟨.slice none 0 0, rfl, Kd.R_nil _ _ _ _ _, HD1.out.below⟩

def qrlayout_frameOf.f (k : Nat) (a0 : Int) : Option (Int × Int × List Int × Int) := (qrversion_Size.f a0).bind fun bt114 => (if bt114.2 = 0 then ((qrversion_Aligns.f k a0).bind fun bt116 => (some (a0, bt114.1, bt116.1, 0))) else (some (0, 0, ([] : List Int), bt114.2)))
set_option maxHeartbeats 8000000 in
set_option maxRecDepth 100000 in
theorem qrlayout_frameOf.calls (k : Nat) (a0 : Int) (r1 : Int) (r2 : Int) (r3 : List Int) (r4 : Int) (w : World) (h : qrlayout_frameOf.f k a0 = some (r1, r2, r3, r4)) :
  Calls Try.prog 36 #[.int .i64 a0] w fun e w' => ∃ v2_ : Value, e = .returned (.tuple #[.agg #[.int .i64 r1, .int .i64 r2, v2_], .int .i64 r4]) ∧ Kd.R (Kd.int .i64) 3 w' w.heap.size (fun _ => True) v2_ r3 ∧ Below w.heap.size w w' := by
 have hu69 := Try.underlying69
 have HB := Aside0.mk (Below.refl w.heap.size w)
 have H : ((qrversion_Size.f a0).bind fun bt114 => (if bt114.2 = 0 then ((qrversion_Aligns.f k a0).bind fun bt116 => (some (a0, bt114.1, bt116.1, 0))) else (some (0, 0, ([] : List Int), bt114.2)))) = some (r1, r2, r3, r4) := h
 clear h
 replace H := Option.bind_eq_some_iff.mp H
 obtain ⟨⟨t114, t115⟩, A20, H⟩ := H
 replace H : (if t115 = 0 then ((qrversion_Aligns.f k a0).bind fun bt116 => (some (a0, t114, bt116.1, 0))) else (some (0, 0, ([] : List Int), t115))) = some (r1, r2, r3, r4) := H
 have A2 := Aside0.mk A20
 clear A20
 by_cases c3 : t115 = 0
 ·rw [if_pos c3] at H
  have c3b0 : (t115 == 0) = true := beq_iff_eq.mpr c3
  have c3b1 : (t115 != 0) = false := bne_eq_false_iff_eq.mpr c3
  clear c3
  replace H := Option.bind_eq_some_iff.mp H
  obtain ⟨⟨t116, t117⟩, A40, H⟩ := H
  replace H : (some (a0, t114, t116, 0)) = some (r1, r2, r3, r4) := H
  have A4 := Aside0.mk A40
  clear A40
  simp only [Option.some.injEq, Prod.mk.injEq] at H
  obtain ⟨rfl, rfl, rfl, rfl⟩ := H
  go_enter Try.func36, Try.ntmps36
  go_wp2_with (first | ((with_reducible refine gate_dst (N := 2) rfl ?_); refine boxE (N := 2) (cs := #[.int .i64 0, .int .i64 0, .slice none 0 0]) (t := 69) ?_; intro gb113 hg w5 hbox hb; have BK113 := Aside0.mk (hbox); have GW113 := Aside0.mk ((szA hg HB.out : w.heap.size ≤ gb113)); have GE113 := Aside0.mk ((szA hg HB.out : w.heap.size ≤ gb113)); replace HB := Aside0.mk (below_step (belA HB.out) hb); clear hb hbox hg) | ((with_reducible refine gate_callee (f := 69) rfl ?_); refine goesL_ (some 10) rfl rfl Try.func69 (by kernel_rfl) rfl #[.int .i64 a0] rfl argA ?_; (with_reducible refine (qrversion_Size.calls a0 t114 t115 _ A2.out).mono ?_); rintro e w' ⟨rfl, ⟨nd, rfl⟩⟩; refine ⟨_, rfl, ?_⟩; (try (rw [drewN_self w5]; generalize hq_ : World.drewN w5 _ = w5; have n0_ : Aside0 (w5.heap[gb113]? = some (.cells #[.int .i64 0, .int .i64 0, .slice none 0 0] 69 (0, 0))) := ⟨by rw [← hq_]; exact (blkA BK113.out)⟩; have n1_ : Aside0 (Below w.heap.size w w5) := ⟨by rw [← hq_]; exact (belA HB.out)⟩; clear BK113 HB hq_; have BK113 := n0_; have HB := n1_; clear n0_ n1_))) | ((with_reducible refine gate_callee (f := 70) rfl ?_); refine goesL_ (some 19) rfl rfl Try.func70 (by kernel_rfl) rfl #[.int .i64 a0] rfl argA ?_; (with_reducible refine (qrversion_Aligns.calls k a0 t116 t117 _ A4.out).mono ?_); rintro e w6 ⟨v118, rfl, ho0, hb⟩; refine ⟨_, rfl, ?_⟩; have HO119 := Aside0.mk (Kd.R_lower ho0 (below_size (belA HB.out))); replace BK113 := Aside0.mk (blk_below (g := gb113) (o := .cells #[.int .i64 0, .int .i64 0, .slice none 0 0] 69 (0, 0)) (blkA BK113.out) hb); replace HB := Aside0.mk (below_step (belA HB.out) hb); (try clear hb); (try clear hb2); (try clear hk); (try clear hi); (try clear ho0); obtain ⟨Ao7, co7, eo7⟩ := Kd.R_slice HO119.out; subst eo7; obtain ⟨hcz8_0, hcz8_1, hcz8_2, hfz8_0, hfz8_1, hfz8_2⟩ := bk3 BK113.out))
  refine bodyPost_ret (results_ct rfl _ _ gb113 69 #[.int .i64 a0, .int .i64 t114, .slice Ao7 t116.length co7] (0, 0) _ rfl (blkB BK113.out) Try.underlying69 rfl (by kernel_rfl)) rfl ?_
  exact ⟨_, errA, by (with_reducible repeat (first | apply Kd.R_alloc | apply Kd.R_drewN | apply Kd.R_drew)); exact Kd.R_mono (Kd.R_far (p := ⟨gb113, 2, none⟩) (Kd.R_far (p := ⟨gb113, 1, none⟩) (Kd.R_far (p := ⟨gb113, 0, none⟩) (Kd.R_types HO119.out BK113.out (by decide)) (fun _ hk => hk.2) (.int .i64 a0)) (fun _ hk => hk.2) (.int .i64 t114)) (fun _ hk => hk.2) (.slice Ao7 t116.length co7)) (fun _ hk => trivial), belA HB.out⟩
 ·rw [if_neg c3] at H
  have c3b0 : (t115 == 0) = false := beq_eq_false_iff_ne.mpr c3
  have c3b1 : (t115 != 0) = true := bne_iff_ne.mpr c3
  simp only [Option.some.injEq, Prod.mk.injEq] at H
  obtain ⟨rfl, rfl, rfl, rfl⟩ := H
  go_enter Try.func36, Try.ntmps36
  go_wp2_with (first | ((with_reducible refine gate_dst (N := 2) rfl ?_); refine boxE (N := 2) (cs := #[.int .i64 0, .int .i64 0, .slice none 0 0]) (t := 69) ?_; intro gb113 hg w9 hbox hb; have BK113 := Aside0.mk (hbox); have GW113 := Aside0.mk ((szA hg HB.out : w.heap.size ≤ gb113)); have GE113 := Aside0.mk ((szA hg HB.out : w.heap.size ≤ gb113)); replace HB := Aside0.mk (below_step (belA HB.out) hb); clear hb hbox hg) | ((with_reducible refine gate_callee (f := 69) rfl ?_); refine goesL_ (some 10) rfl rfl Try.func69 (by kernel_rfl) rfl #[.int .i64 a0] rfl argA ?_; (with_reducible refine (qrversion_Size.calls a0 t114 t115 _ A2.out).mono ?_); rintro e w' ⟨rfl, ⟨nd, rfl⟩⟩; refine ⟨_, rfl, ?_⟩; (try (rw [drewN_self w9]; generalize hq_ : World.drewN w9 _ = w9; have n0_ : Aside0 (w9.heap[gb113]? = some (.cells #[.int .i64 0, .int .i64 0, .slice none 0 0] 69 (0, 0))) := ⟨by rw [← hq_]; exact (blkA BK113.out)⟩; have n1_ : Aside0 (Below w.heap.size w w9) := ⟨by rw [← hq_]; exact (belA HB.out)⟩; clear BK113 HB hq_; have BK113 := n0_; have HB := n1_; clear n0_ n1_)); obtain ⟨hcz10_0, hcz10_1, hcz10_2, hfz10_0, hfz10_1, hfz10_2⟩ := bk3 BK113.out))
  refine bodyPost_ret (results_ct rfl _ _ gb113 69 #[.int .i64 0, .int .i64 0, .slice none 0 0] (0, 0) _ rfl (blkB BK113.out) Try.underlying69 rfl (by kernel_rfl)) rfl ?_
  exact ⟨_, errA, nilA, belA HB.out⟩

def qrlayout_far.f (a0 : Int) (a1 : Int) (a2 : Int) (a3 : Int) : Option (Int) := some (mx (mx (mx (wrap64 (a0 - a2)) (wrap64 (a2 - a0))) (wrap64 (a1 - a3))) (wrap64 (a3 - a1)))
set_option maxHeartbeats 8000000 in
set_option maxRecDepth 100000 in
theorem qrlayout_far.calls (a0 : Int) (a1 : Int) (a2 : Int) (a3 : Int) (r : Int) (w : World) (h : qrlayout_far.f a0 a1 a2 a3 = some r) :
  Calls Try.prog 75 #[.int .i64 a0, .int .i64 a1, .int .i64 a2, .int .i64 a3] w fun e w' => e = .returned (.int .i64 r) ∧ Below w.heap.size w w' := by
 have HB := Aside0.mk (Below.refl w.heap.size w)
 have H : (some (mx (mx (mx (wrap64 (a0 - a2)) (wrap64 (a2 - a0))) (wrap64 (a1 - a3))) (wrap64 (a3 - a1)))) = some r := h
 clear h
 obtain ⟨ji5, hji5⟩ : ∃ j_ : Int, (mx (wrap64 (a0 - a2)) (wrap64 (a2 - a0))) = j_ := ⟨_, rfl⟩
 replace H : (some (mx (mx (ji5) (wrap64 (a1 - a3))) (wrap64 (a3 - a1)))) = some r := by first | (rw [hji5] at H; exact H) | (simp only [hji5] at H ⊢; exact H)
 have hji5_ : (if (wrap64 (a0 - a2)) < (wrap64 (a2 - a0)) then (wrap64 (a2 - a0)) else (wrap64 (a0 - a2))) = ji5 := hji5
 obtain ⟨ji6, hji6⟩ : ∃ j_ : Int, (mx (ji5) (wrap64 (a1 - a3))) = j_ := ⟨_, rfl⟩
 replace H : (some (mx (ji6) (wrap64 (a3 - a1)))) = some r := by first | (rw [hji6] at H; exact H) | (simp only [hji6] at H ⊢; exact H)
 have hji6_ : (if (ji5) < (wrap64 (a1 - a3)) then (wrap64 (a1 - a3)) else (ji5)) = ji6 := hji6
 obtain ⟨ji7, hji7⟩ : ∃ j_ : Int, (mx (ji6) (wrap64 (a3 - a1))) = j_ := ⟨_, rfl⟩
 replace H : (some ji7) = some r := by first | (rw [hji7] at H; exact H) | (simp only [hji7] at H ⊢; exact H)
 have hji7_ : (if (ji6) < (wrap64 (a3 - a1)) then (wrap64 (a3 - a1)) else (ji6)) = ji7 := hji7
 obtain rfl := Option.some.inj H
 go_enter Try.func75, Try.ntmps75
 go_wp2
 go_ret
 exact ⟨by first | rfl | (simp [errW_none, errW_some] <;> rfl) | (simp only [← hji5, ← hji6, ← hji7]; first | rfl | (simp [errW_none, errW_some] <;> rfl)) | (simp [*, errW_none, errW_some] <;> rfl), belA HB.out⟩

mutual
def qrlayout_frame_align.l0 : Nat → Int → Int → List Int → Int → Int → Int → Int → List Int → Option (Int)
 | 0, _, _, _, _, _, _, _, _ => none
 | k + 1, x1, x2, x14, x15, x16, x121000, x121001, x121002 => if x16 < x15 then (if 0 ≤ x16 then (if x16 < (x14.length : Int) then (qrlayout_frame_align.l1 k x1 x2 (rd x14 x16) x14 x15 x16 x121002 (x121002.length : Int) 0 x121000 x121001 x121002) else (none)) else (none)) else (some (-1))
def qrlayout_frame_align.l1 : Nat → Int → Int → Int → List Int → Int → Int → List Int → Int → Int → Int → Int → List Int → Option (Int)
 | 0, _, _, _, _, _, _, _, _, _, _, _, _ => none
 | k + 1, x1, x2, x8, x14, x15, x16, x21, x22, x23, x121000, x121001, x121002 => if x23 < x22 then (if 0 ≤ x23 then (if x23 < (x21.length : Int) then (if (mn x8 (rd x21 x23)) = 6 then (if (mx x8 (rd x21 x23)) = 6 then ((qrlayout_far.f x1 x2 x8 (rd x21 x23)).bind fun t123 => (if t123 ≤ 2 then (qrlayout_frame_align.l1 k x1 x2 x8 x14 x15 x16 x21 x22 (wrap64 (x23 + 1)) x121000 x121001 x121002) else (qrlayout_frame_align.l1 k x1 x2 x8 x14 x15 x16 x21 x22 (wrap64 (x23 + 1)) x121000 x121001 x121002))) else ((qrlayout_far.f x1 x2 x8 (rd x21 x23)).bind fun t124 => (if t124 ≤ 2 then (if ((mx x8 (rd x21 x23)) = (wrap64 (x121001 - 7))) then (qrlayout_frame_align.l1 k x1 x2 x8 x14 x15 x16 x21 x22 (wrap64 (x23 + 1)) x121000 x121001 x121002) else (some t124)) else (qrlayout_frame_align.l1 k x1 x2 x8 x14 x15 x16 x21 x22 (wrap64 (x23 + 1)) x121000 x121001 x121002)))) else ((qrlayout_far.f x1 x2 x8 (rd x21 x23)).bind fun t125 => (if t125 ≤ 2 then (some t125) else (qrlayout_frame_align.l1 k x1 x2 x8 x14 x15 x16 x21 x22 (wrap64 (x23 + 1)) x121000 x121001 x121002)))) else (none)) else (none)) else (qrlayout_frame_align.l0 k x1 x2 x14 x15 (wrap64 (x16 + 1)) x121000 x121001 x121002)
end
def qrlayout_frame_align.f (k : Nat) (a0_0 : Int) (a0_1 : Int) (l0_2 : List Int) (a1 : Int) (a2 : Int) : Option (Int) := qrlayout_frame_align.l0 k a1 a2 l0_2 (l0_2.length : Int) 0 a0_0 a0_1 l0_2
set_option maxHeartbeats 8000000 in
set_option maxRecDepth 100000 in
theorem qrlayout_frame_align.calls (k : Nat) (a0_0 : Int) (a0_1 : Int) (A0_2 : Option Addr) (c0_2 : Nat) (l0_2 : List Int) (a1 : Int) (a2 : Int) (r : Int) (w : World) (hr0_2 : Kd.C (Kd.int .i64) w A0_2 l0_2.length l0_2) (hc0_2 : l0_2.length ≤ c0_2) (h : qrlayout_frame_align.f k a0_0 a0_1 l0_2 a1 a2 = some r) :
  Calls Try.prog 74 #[.agg #[.int .i64 a0_0, .int .i64 a0_1, .slice A0_2 l0_2.length c0_2], .int .i64 a1, .int .i64 a2] w fun e w' => e = .returned (.int .i64 r) ∧ Below w.heap.size w w' := by
 have hu69 := Try.underlying69
 have HR0_2 := Aside0.mk hr0_2
 have HC0_2 := Aside0.mk hc0_2
 clear hr0_2 hc0_2
 have HB := Aside0.mk (Below.refl w.heap.size w)
 have H : (qrlayout_frame_align.l0 k a1 a2 l0_2 (l0_2.length : Int) 0 a0_0 a0_1 l0_2) = some r := h
 clear h
 have H' := Aside0.mk H
 clear H
 go_enter Try.func74, Try.ntmps74
 go_wp2_with (first | ((with_reducible refine gate_dst (N := 3) rfl ?_); (try (refine gate_guard (by rfl) ?_; dsimp only)); refine boxE (N := 3) (cs := #[.int .i64 a0_0, .int .i64 a0_1, .slice A0_2 l0_2.length c0_2]) (t := 69) ?_; intro gb120 hg w4 hbox hb; have BK120 := Aside0.mk (hbox); have GW120 := Aside0.mk ((szA hg HB.out : w.heap.size ≤ gb120)); have GE120 := Aside0.mk ((szA hg HB.out : w.heap.size ≤ gb120)); replace HB := Aside0.mk (below_step (belA HB.out) hb); clear hb hbox hg; obtain ⟨hcz5_0, hcz5_1, hcz5_2, hfz5_0, hfz5_1, hfz5_2⟩ := bk3 BK120.out))
 go_loopg [16] k (fun kq v16 w' => ∃ (x16_1 : Int), v16 = .int .i64 x16_1 ∧ Aside0 (qrlayout_frame_align.l0 kq a1 a2 l0_2 (l0_2.length : Int) x16_1 a0_0 a0_1 l0_2 = some r) ∧ Aside0 (kq ≤ k) ∧ Aside0 (w'.heap[gb120]? = some (.cells #[.int .i64 a0_0, .int .i64 a0_1, (.slice A0_2 l0_2.length c0_2)] 69 (0, 0))) ∧ Aside0 (Below w.heap.size w w'))
 case atStart => exact ⟨(0), smpA, H', ⟨Nat.le_refl _⟩, ⟨blkA BK120.out⟩, ⟨belA HB.out⟩⟩
 case round =>
  clear H'
  try clear p2
  try clear hcz5_0
  try clear hcz5_1
  try clear hcz5_2
  try clear hfz5_0
  try clear hfz5_1
  try clear hfz5_2
  obtain ⟨x16_1, rfl, HA, HK1, BK120, HB⟩ := hrel
  cases gk with
  | zero => exact absurd HA.out (by simp [qrlayout_frame_align.l0])
  | succ k1 =>
   have H := HA.out
   clear HA
   simp only [qrlayout_frame_align.l0] at H
   by_cases c6 : x16_1 < (l0_2.length : Int)
   ·rw [if_pos c6] at H
    have c6b0 : decide (x16_1 < (l0_2.length : Int)) = true := decide_eq_true c6
    clear c6
    by_cases c7 : 0 ≤ x16_1
    ·rw [if_pos c7] at H
     have c7b0 : decide (0 ≤ x16_1) = true := decide_eq_true c7
     clear c7
     by_cases c8 : x16_1 < (l0_2.length : Int)
     ·rw [if_pos c8] at H
      have c8b0 : decide (x16_1 < (l0_2.length : Int)) = true := decide_eq_true c8
      clear c8
      have H' := Aside0.mk H
      clear H
      have p121 : 0 ≤ (x16_1 : Int) := of_decide_eq_true (by first | (with_reducible assumption) | assumption)
      have q121 : x16_1 < (l0_2.length : Int) := of_decide_eq_true (by first | (with_reducible assumption) | assumption)
      obtain ⟨ad121, e121, hx121_0⟩ := Kd.at_int HR0_2.out x16_1 p121 q121
      cases e121
      replace hx121_0 := (HB.out.cell (World.block_lt_of_cell? w _ hx121_0)).trans hx121_0
      replace p121 := eq_true p121
      replace q121 := eq_true q121
      obtain ⟨hcz9_0, hcz9_1, hcz9_2, hfz9_0, hfz9_1, hfz9_2⟩ := bk3 BK120.out
      go_wp2
      go_loopg [23] k1 (fun kq v23 w' => ∃ (x23_2 : Int), v23 = .int .i64 x23_2 ∧ Aside0 (qrlayout_frame_align.l1 kq a1 a2 (rd l0_2 x16_1) l0_2 (l0_2.length : Int) x16_1 l0_2 (l0_2.length : Int) x23_2 a0_0 a0_1 l0_2 = some r) ∧ Aside0 (kq ≤ k1) ∧ Aside0 (w'.heap[gb120]? = some (.cells #[.int .i64 a0_0, .int .i64 a0_1, (.slice (some ad121) l0_2.length c0_2)] 69 (0, 0))) ∧ Aside0 (Below w.heap.size w w'))
      case atStart => exact ⟨(0), smpA, H', ⟨Nat.le_refl _⟩, ⟨blkA BK120.out⟩, ⟨belA HB.out⟩⟩
      case round =>
       clear H'
       try clear p1
       try clear q1
       try clear hx1
       try clear p2
       try clear c6
       try clear c6b0
       try clear c7
       try clear c7b0
       try clear c8
       try clear c8b0
       try clear hcz5_0
       try clear hcz5_1
       try clear hcz5_2
       try clear hcz9_0
       try clear hcz9_1
       try clear hcz9_2
       try clear hfz5_0
       try clear hfz5_1
       try clear hfz5_2
       try clear hfz9_0
       try clear hfz9_1
       try clear hfz9_2
       try clear hx121_0
       try clear p121
       try clear p2
       try clear q121
       obtain ⟨x23_2, rfl, HA, HK2, BK120, HB⟩ := hrel
       cases gk with
       | zero => exact absurd HA.out (by simp [qrlayout_frame_align.l1])
       | succ k2 =>
        have H := HA.out
        clear HA
        simp only [qrlayout_frame_align.l1] at H
        by_cases c10 : x23_2 < (l0_2.length : Int)
        ·rw [if_pos c10] at H
         have c10b0 : decide (x23_2 < (l0_2.length : Int)) = true := decide_eq_true c10
         clear c10
         by_cases c11 : 0 ≤ x23_2
         ·rw [if_pos c11] at H
          have c11b0 : decide (0 ≤ x23_2) = true := decide_eq_true c11
          clear c11
          by_cases c12 : x23_2 < (l0_2.length : Int)
          ·rw [if_pos c12] at H
           have c12b0 : decide (x23_2 < (l0_2.length : Int)) = true := decide_eq_true c12
           clear c12
           obtain ⟨ji13, hji13⟩ : ∃ j_ : Int, (mn (rd l0_2 x16_1) (rd l0_2 x23_2)) = j_ := ⟨_, rfl⟩
           replace H : (if (ji13) = 6 then (if (mx (rd l0_2 x16_1) (rd l0_2 x23_2)) = 6 then ((qrlayout_far.f a1 a2 (rd l0_2 x16_1) (rd l0_2 x23_2)).bind fun t123 => (if t123 ≤ 2 then (qrlayout_frame_align.l1 k2 a1 a2 (rd l0_2 x16_1) l0_2 (l0_2.length : Int) x16_1 l0_2 (l0_2.length : Int) (wrap64 (x23_2 + 1)) a0_0 a0_1 l0_2) else (qrlayout_frame_align.l1 k2 a1 a2 (rd l0_2 x16_1) l0_2 (l0_2.length : Int) x16_1 l0_2 (l0_2.length : Int) (wrap64 (x23_2 + 1)) a0_0 a0_1 l0_2))) else ((qrlayout_far.f a1 a2 (rd l0_2 x16_1) (rd l0_2 x23_2)).bind fun t124 => (if t124 ≤ 2 then (if ((mx (rd l0_2 x16_1) (rd l0_2 x23_2)) = (wrap64 (a0_1 - 7))) then (qrlayout_frame_align.l1 k2 a1 a2 (rd l0_2 x16_1) l0_2 (l0_2.length : Int) x16_1 l0_2 (l0_2.length : Int) (wrap64 (x23_2 + 1)) a0_0 a0_1 l0_2) else (some t124)) else (qrlayout_frame_align.l1 k2 a1 a2 (rd l0_2 x16_1) l0_2 (l0_2.length : Int) x16_1 l0_2 (l0_2.length : Int) (wrap64 (x23_2 + 1)) a0_0 a0_1 l0_2)))) else ((qrlayout_far.f a1 a2 (rd l0_2 x16_1) (rd l0_2 x23_2)).bind fun t125 => (if t125 ≤ 2 then (some t125) else (qrlayout_frame_align.l1 k2 a1 a2 (rd l0_2 x16_1) l0_2 (l0_2.length : Int) x16_1 l0_2 (l0_2.length : Int) (wrap64 (x23_2 + 1)) a0_0 a0_1 l0_2)))) = some r := by first | (rw [hji13] at H; exact H) | (simp only [hji13] at H ⊢; exact H)
           have hji13_ : (if (rd l0_2 x23_2) < (rd l0_2 x16_1) then (rd l0_2 x23_2) else (rd l0_2 x16_1)) = ji13 := hji13
           by_cases c14 : (ji13) = 6
           ·rw [if_pos c14] at H
            have c14b0 : ((ji13) == 6) = true := beq_iff_eq.mpr c14
            have c14b1 : ((ji13) != 6) = false := bne_eq_false_iff_eq.mpr c14
            clear c14
            obtain ⟨ji15, hji15⟩ : ∃ j_ : Int, (mx (rd l0_2 x16_1) (rd l0_2 x23_2)) = j_ := ⟨_, rfl⟩
            replace H : (if (ji15) = 6 then ((qrlayout_far.f a1 a2 (rd l0_2 x16_1) (rd l0_2 x23_2)).bind fun t123 => (if t123 ≤ 2 then (qrlayout_frame_align.l1 k2 a1 a2 (rd l0_2 x16_1) l0_2 (l0_2.length : Int) x16_1 l0_2 (l0_2.length : Int) (wrap64 (x23_2 + 1)) a0_0 a0_1 l0_2) else (qrlayout_frame_align.l1 k2 a1 a2 (rd l0_2 x16_1) l0_2 (l0_2.length : Int) x16_1 l0_2 (l0_2.length : Int) (wrap64 (x23_2 + 1)) a0_0 a0_1 l0_2))) else ((qrlayout_far.f a1 a2 (rd l0_2 x16_1) (rd l0_2 x23_2)).bind fun t124 => (if t124 ≤ 2 then (if ((ji15) = (wrap64 (a0_1 - 7))) then (qrlayout_frame_align.l1 k2 a1 a2 (rd l0_2 x16_1) l0_2 (l0_2.length : Int) x16_1 l0_2 (l0_2.length : Int) (wrap64 (x23_2 + 1)) a0_0 a0_1 l0_2) else (some t124)) else (qrlayout_frame_align.l1 k2 a1 a2 (rd l0_2 x16_1) l0_2 (l0_2.length : Int) x16_1 l0_2 (l0_2.length : Int) (wrap64 (x23_2 + 1)) a0_0 a0_1 l0_2)))) = some r := by first | (rw [hji15] at H; exact H) | (simp only [hji15] at H ⊢; exact H)
            have hji15_ : (if (rd l0_2 x16_1) < (rd l0_2 x23_2) then (rd l0_2 x23_2) else (rd l0_2 x16_1)) = ji15 := hji15
            by_cases c16 : (ji15) = 6
            ·rw [if_pos c16] at H
             have c16b0 : ((ji15) == 6) = true := beq_iff_eq.mpr c16
             have c16b1 : ((ji15) != 6) = false := bne_eq_false_iff_eq.mpr c16
             clear c16
             replace H := Option.bind_eq_some_iff.mp H
             obtain ⟨t123, A170, H⟩ := H
             replace H : (if t123 ≤ 2 then (qrlayout_frame_align.l1 k2 a1 a2 (rd l0_2 x16_1) l0_2 (l0_2.length : Int) x16_1 l0_2 (l0_2.length : Int) (wrap64 (x23_2 + 1)) a0_0 a0_1 l0_2) else (qrlayout_frame_align.l1 k2 a1 a2 (rd l0_2 x16_1) l0_2 (l0_2.length : Int) x16_1 l0_2 (l0_2.length : Int) (wrap64 (x23_2 + 1)) a0_0 a0_1 l0_2)) = some r := H
             have A17 := Aside0.mk A170
             clear A170
             by_cases c18 : t123 ≤ 2
             ·rw [if_pos c18] at H
              have c18b0 : decide (t123 ≤ 2) = true := decide_eq_true c18
              clear c18
              have H' := Aside0.mk H
              clear H
              have p122 : 0 ≤ (x23_2 : Int) := of_decide_eq_true (by first | (with_reducible assumption) | assumption)
              have q122 : x23_2 < (l0_2.length : Int) := of_decide_eq_true (by first | (with_reducible assumption) | assumption)
              obtain ⟨ad122, e122, hx122_0⟩ := Kd.at_int HR0_2.out x23_2 p122 q122
              obtain rfl : ad121 = ad122 := (by injection e122)
              replace hx122_0 := (HB.out.cell (World.block_lt_of_cell? w _ hx122_0)).trans hx122_0
              replace p122 := eq_true p122
              replace q122 := eq_true q122
              go_wp2_with (first | ((with_reducible refine gate_callee (f := 75) rfl ?_); refine goesL_ (some 50) rfl rfl Try.func75 (by kernel_rfl) rfl #[.int .i64 a1, .int .i64 a2, .int .i64 (rd l0_2 x16_1), .int .i64 (rd l0_2 x23_2)] rfl argA ?_; (with_reducible refine (qrlayout_far.calls a1 a2 (rd l0_2 x16_1) (rd l0_2 x23_2) t123 _ A17.out).mono ?_); rintro e w19 ⟨rfl, hb⟩; refine ⟨_, rfl, ?_⟩; replace BK120 := Aside0.mk (blk_below (g := gb120) (o := .cells #[.int .i64 a0_0, .int .i64 a0_1, .slice (some ad121) l0_2.length c0_2] 69 (0, 0)) (blkA BK120.out) hb); replace HB := Aside0.mk (below_step (belA HB.out) hb); (try clear hb); (try clear hb2); (try clear hk); (try clear hi)))
              go_roundg k2
              case measure => have := HK1.out; have := HK2.out; omega
              case rel => exact ⟨(wrap64 (x23_2 + 1)), smpA, H', ⟨by have := HK1.out; have := HK2.out; omega⟩, ⟨blkA BK120.out⟩, ⟨belA HB.out⟩⟩
             ·rw [if_neg c18] at H
              have c18b0 : decide (t123 ≤ 2) = false := decide_eq_false c18
              clear c18
              have H' := Aside0.mk H
              clear H
              have p122 : 0 ≤ (x23_2 : Int) := of_decide_eq_true (by first | (with_reducible assumption) | assumption)
              have q122 : x23_2 < (l0_2.length : Int) := of_decide_eq_true (by first | (with_reducible assumption) | assumption)
              obtain ⟨ad122, e122, hx122_0⟩ := Kd.at_int HR0_2.out x23_2 p122 q122
              obtain rfl : ad121 = ad122 := (by injection e122)
              replace hx122_0 := (HB.out.cell (World.block_lt_of_cell? w _ hx122_0)).trans hx122_0
              replace p122 := eq_true p122
              replace q122 := eq_true q122
              go_wp2_with (first | ((with_reducible refine gate_callee (f := 75) rfl ?_); refine goesL_ (some 50) rfl rfl Try.func75 (by kernel_rfl) rfl #[.int .i64 a1, .int .i64 a2, .int .i64 (rd l0_2 x16_1), .int .i64 (rd l0_2 x23_2)] rfl argA ?_; (with_reducible refine (qrlayout_far.calls a1 a2 (rd l0_2 x16_1) (rd l0_2 x23_2) t123 _ A17.out).mono ?_); rintro e w20 ⟨rfl, hb⟩; refine ⟨_, rfl, ?_⟩; replace BK120 := Aside0.mk (blk_below (g := gb120) (o := .cells #[.int .i64 a0_0, .int .i64 a0_1, .slice (some ad121) l0_2.length c0_2] 69 (0, 0)) (blkA BK120.out) hb); replace HB := Aside0.mk (below_step (belA HB.out) hb); (try clear hb); (try clear hb2); (try clear hk); (try clear hi)))
              go_roundg k2
              case measure => have := HK1.out; have := HK2.out; omega
              case rel => exact ⟨(wrap64 (x23_2 + 1)), smpA, H', ⟨by have := HK1.out; have := HK2.out; omega⟩, ⟨blkA BK120.out⟩, ⟨belA HB.out⟩⟩
            ·rw [if_neg c16] at H
             have c16b0 : ((ji15) == 6) = false := beq_eq_false_iff_ne.mpr c16
             have c16b1 : ((ji15) != 6) = true := bne_iff_ne.mpr c16
             replace H := Option.bind_eq_some_iff.mp H
             obtain ⟨t124, A220, H⟩ := H
             replace H : (if t124 ≤ 2 then (if ((ji15) = (wrap64 (a0_1 - 7))) then (qrlayout_frame_align.l1 k2 a1 a2 (rd l0_2 x16_1) l0_2 (l0_2.length : Int) x16_1 l0_2 (l0_2.length : Int) (wrap64 (x23_2 + 1)) a0_0 a0_1 l0_2) else (some t124)) else (qrlayout_frame_align.l1 k2 a1 a2 (rd l0_2 x16_1) l0_2 (l0_2.length : Int) x16_1 l0_2 (l0_2.length : Int) (wrap64 (x23_2 + 1)) a0_0 a0_1 l0_2)) = some r := H
             have A22 := Aside0.mk A220
             clear A220
             by_cases c23 : t124 ≤ 2
             ·rw [if_pos c23] at H
              have c23b0 : decide (t124 ≤ 2) = true := decide_eq_true c23
              clear c23
              by_cases c24 : ((ji15) = (wrap64 (a0_1 - 7)))
              ·rw [if_pos c24] at H
               have c24b0 : ((ji15) == (wrap64 (a0_1 - 7))) = true := beq_iff_eq.mpr c24
               have c24b1 : ((ji15) != (wrap64 (a0_1 - 7))) = false := bne_eq_false_iff_eq.mpr c24
               clear c24
               have H' := Aside0.mk H
               clear H
               have p122 : 0 ≤ (x23_2 : Int) := of_decide_eq_true (by first | (with_reducible assumption) | assumption)
               have q122 : x23_2 < (l0_2.length : Int) := of_decide_eq_true (by first | (with_reducible assumption) | assumption)
               obtain ⟨ad122, e122, hx122_0⟩ := Kd.at_int HR0_2.out x23_2 p122 q122
               obtain rfl : ad121 = ad122 := (by injection e122)
               replace hx122_0 := (HB.out.cell (World.block_lt_of_cell? w _ hx122_0)).trans hx122_0
               replace p122 := eq_true p122
               replace q122 := eq_true q122
               obtain ⟨hcz25_0, hcz25_1, hcz25_2, hfz25_0, hfz25_1, hfz25_2⟩ := bk3 BK120.out
               go_wp2_with (first | ((with_reducible refine gate_callee (f := 75) rfl ?_); refine goesL_ (some 50) rfl rfl Try.func75 (by kernel_rfl) rfl #[.int .i64 a1, .int .i64 a2, .int .i64 (rd l0_2 x16_1), .int .i64 (rd l0_2 x23_2)] rfl argA ?_; (with_reducible refine (qrlayout_far.calls a1 a2 (rd l0_2 x16_1) (rd l0_2 x23_2) t124 _ A22.out).mono ?_); rintro e w26 ⟨rfl, hb⟩; refine ⟨_, rfl, ?_⟩; replace BK120 := Aside0.mk (blk_below (g := gb120) (o := .cells #[.int .i64 a0_0, .int .i64 a0_1, .slice (some ad121) l0_2.length c0_2] 69 (0, 0)) (blkA BK120.out) hb); replace HB := Aside0.mk (below_step (belA HB.out) hb); (try clear hb); (try clear hb2); (try clear hk); (try clear hi)))
               go_roundg k2
               case measure => have := HK1.out; have := HK2.out; omega
               case rel => exact ⟨(wrap64 (x23_2 + 1)), smpA, H', ⟨by have := HK1.out; have := HK2.out; omega⟩, ⟨blkA BK120.out⟩, ⟨belA HB.out⟩⟩
              ·rw [if_neg c24] at H
               have c24b0 : ((ji15) == (wrap64 (a0_1 - 7))) = false := beq_eq_false_iff_ne.mpr c24
               have c24b1 : ((ji15) != (wrap64 (a0_1 - 7))) = true := bne_iff_ne.mpr c24
               obtain rfl := Option.some.inj H
               have p122 : 0 ≤ (x23_2 : Int) := of_decide_eq_true (by first | (with_reducible assumption) | assumption)
               have q122 : x23_2 < (l0_2.length : Int) := of_decide_eq_true (by first | (with_reducible assumption) | assumption)
               obtain ⟨ad122, e122, hx122_0⟩ := Kd.at_int HR0_2.out x23_2 p122 q122
               obtain rfl : ad121 = ad122 := (by injection e122)
               replace hx122_0 := (HB.out.cell (World.block_lt_of_cell? w _ hx122_0)).trans hx122_0
               replace p122 := eq_true p122
               replace q122 := eq_true q122
               obtain ⟨hcz27_0, hcz27_1, hcz27_2, hfz27_0, hfz27_1, hfz27_2⟩ := bk3 BK120.out
               go_wp2_with (first | ((with_reducible refine gate_callee (f := 75) rfl ?_); refine goesL_ (some 50) rfl rfl Try.func75 (by kernel_rfl) rfl #[.int .i64 a1, .int .i64 a2, .int .i64 (rd l0_2 x16_1), .int .i64 (rd l0_2 x23_2)] rfl argA ?_; (with_reducible refine (qrlayout_far.calls a1 a2 (rd l0_2 x16_1) (rd l0_2 x23_2) t124 _ A22.out).mono ?_); rintro e w28 ⟨rfl, hb⟩; refine ⟨_, rfl, ?_⟩; replace BK120 := Aside0.mk (blk_below (g := gb120) (o := .cells #[.int .i64 a0_0, .int .i64 a0_1, .slice (some ad121) l0_2.length c0_2] 69 (0, 0)) (blkA BK120.out) hb); replace HB := Aside0.mk (below_step (belA HB.out) hb); (try clear hb); (try clear hb2); (try clear hk); (try clear hi)))
               go_ret
               exact ⟨by first | rfl | (simp [errW_none, errW_some] <;> rfl) | (simp only [← hji13, ← hji15]; first | rfl | (simp [errW_none, errW_some] <;> rfl)) | (simp [*, errW_none, errW_some] <;> rfl), belA HB.out⟩
             ·rw [if_neg c23] at H
              have c23b0 : decide (t124 ≤ 2) = false := decide_eq_false c23
              clear c23
              have H' := Aside0.mk H
              clear H
              have p122 : 0 ≤ (x23_2 : Int) := of_decide_eq_true (by first | (with_reducible assumption) | assumption)
              have q122 : x23_2 < (l0_2.length : Int) := of_decide_eq_true (by first | (with_reducible assumption) | assumption)
              obtain ⟨ad122, e122, hx122_0⟩ := Kd.at_int HR0_2.out x23_2 p122 q122
              obtain rfl : ad121 = ad122 := (by injection e122)
              replace hx122_0 := (HB.out.cell (World.block_lt_of_cell? w _ hx122_0)).trans hx122_0
              replace p122 := eq_true p122
              replace q122 := eq_true q122
              obtain ⟨hcz29_0, hcz29_1, hcz29_2, hfz29_0, hfz29_1, hfz29_2⟩ := bk3 BK120.out
              go_wp2_with (first | ((with_reducible refine gate_callee (f := 75) rfl ?_); refine goesL_ (some 50) rfl rfl Try.func75 (by kernel_rfl) rfl #[.int .i64 a1, .int .i64 a2, .int .i64 (rd l0_2 x16_1), .int .i64 (rd l0_2 x23_2)] rfl argA ?_; (with_reducible refine (qrlayout_far.calls a1 a2 (rd l0_2 x16_1) (rd l0_2 x23_2) t124 _ A22.out).mono ?_); rintro e w30 ⟨rfl, hb⟩; refine ⟨_, rfl, ?_⟩; replace BK120 := Aside0.mk (blk_below (g := gb120) (o := .cells #[.int .i64 a0_0, .int .i64 a0_1, .slice (some ad121) l0_2.length c0_2] 69 (0, 0)) (blkA BK120.out) hb); replace HB := Aside0.mk (below_step (belA HB.out) hb); (try clear hb); (try clear hb2); (try clear hk); (try clear hi)))
              go_roundg k2
              case measure => have := HK1.out; have := HK2.out; omega
              case rel => exact ⟨(wrap64 (x23_2 + 1)), smpA, H', ⟨by have := HK1.out; have := HK2.out; omega⟩, ⟨blkA BK120.out⟩, ⟨belA HB.out⟩⟩
           ·rw [if_neg c14] at H
            have c14b0 : ((ji13) == 6) = false := beq_eq_false_iff_ne.mpr c14
            have c14b1 : ((ji13) != 6) = true := bne_iff_ne.mpr c14
            replace H := Option.bind_eq_some_iff.mp H
            obtain ⟨t125, A310, H⟩ := H
            replace H : (if t125 ≤ 2 then (some t125) else (qrlayout_frame_align.l1 k2 a1 a2 (rd l0_2 x16_1) l0_2 (l0_2.length : Int) x16_1 l0_2 (l0_2.length : Int) (wrap64 (x23_2 + 1)) a0_0 a0_1 l0_2)) = some r := H
            have A31 := Aside0.mk A310
            clear A310
            by_cases c32 : t125 ≤ 2
            ·rw [if_pos c32] at H
             have c32b0 : decide (t125 ≤ 2) = true := decide_eq_true c32
             clear c32
             obtain rfl := Option.some.inj H
             have p122 : 0 ≤ (x23_2 : Int) := of_decide_eq_true (by first | (with_reducible assumption) | assumption)
             have q122 : x23_2 < (l0_2.length : Int) := of_decide_eq_true (by first | (with_reducible assumption) | assumption)
             obtain ⟨ad122, e122, hx122_0⟩ := Kd.at_int HR0_2.out x23_2 p122 q122
             obtain rfl : ad121 = ad122 := (by injection e122)
             replace hx122_0 := (HB.out.cell (World.block_lt_of_cell? w _ hx122_0)).trans hx122_0
             replace p122 := eq_true p122
             replace q122 := eq_true q122
             go_wp2_with (first | ((with_reducible refine gate_callee (f := 75) rfl ?_); refine goesL_ (some 50) rfl rfl Try.func75 (by kernel_rfl) rfl #[.int .i64 a1, .int .i64 a2, .int .i64 (rd l0_2 x16_1), .int .i64 (rd l0_2 x23_2)] rfl argA ?_; (with_reducible refine (qrlayout_far.calls a1 a2 (rd l0_2 x16_1) (rd l0_2 x23_2) t125 _ A31.out).mono ?_); rintro e w33 ⟨rfl, hb⟩; refine ⟨_, rfl, ?_⟩; replace BK120 := Aside0.mk (blk_below (g := gb120) (o := .cells #[.int .i64 a0_0, .int .i64 a0_1, .slice (some ad121) l0_2.length c0_2] 69 (0, 0)) (blkA BK120.out) hb); replace HB := Aside0.mk (below_step (belA HB.out) hb); (try clear hb); (try clear hb2); (try clear hk); (try clear hi)))
             go_ret
             exact ⟨by first | rfl | (simp [errW_none, errW_some] <;> rfl) | (simp only [← hji13]; first | rfl | (simp [errW_none, errW_some] <;> rfl)) | (simp [*, errW_none, errW_some] <;> rfl), belA HB.out⟩
            ·rw [if_neg c32] at H
             have c32b0 : decide (t125 ≤ 2) = false := decide_eq_false c32
             clear c32
             have H' := Aside0.mk H
             clear H
             have p122 : 0 ≤ (x23_2 : Int) := of_decide_eq_true (by first | (with_reducible assumption) | assumption)
             have q122 : x23_2 < (l0_2.length : Int) := of_decide_eq_true (by first | (with_reducible assumption) | assumption)
             obtain ⟨ad122, e122, hx122_0⟩ := Kd.at_int HR0_2.out x23_2 p122 q122
             obtain rfl : ad121 = ad122 := (by injection e122)
             replace hx122_0 := (HB.out.cell (World.block_lt_of_cell? w _ hx122_0)).trans hx122_0
             replace p122 := eq_true p122
             replace q122 := eq_true q122
             go_wp2_with (first | ((with_reducible refine gate_callee (f := 75) rfl ?_); refine goesL_ (some 50) rfl rfl Try.func75 (by kernel_rfl) rfl #[.int .i64 a1, .int .i64 a2, .int .i64 (rd l0_2 x16_1), .int .i64 (rd l0_2 x23_2)] rfl argA ?_; (with_reducible refine (qrlayout_far.calls a1 a2 (rd l0_2 x16_1) (rd l0_2 x23_2) t125 _ A31.out).mono ?_); rintro e w34 ⟨rfl, hb⟩; refine ⟨_, rfl, ?_⟩; replace BK120 := Aside0.mk (blk_below (g := gb120) (o := .cells #[.int .i64 a0_0, .int .i64 a0_1, .slice (some ad121) l0_2.length c0_2] 69 (0, 0)) (blkA BK120.out) hb); replace HB := Aside0.mk (below_step (belA HB.out) hb); (try clear hb); (try clear hb2); (try clear hk); (try clear hi)))
             go_roundg k2
             case measure => have := HK1.out; have := HK2.out; omega
             case rel => exact ⟨(wrap64 (x23_2 + 1)), smpA, H', ⟨by have := HK1.out; have := HK2.out; omega⟩, ⟨blkA BK120.out⟩, ⟨belA HB.out⟩⟩
          ·rw [if_neg c12] at H
           exact absurd H (by simp)
         ·rw [if_neg c11] at H
          exact absurd H (by simp)
        ·rw [if_neg c10] at H
         have c10b0 : decide (x23_2 < (l0_2.length : Int)) = false := decide_eq_false c10
         clear c10
         have H' := Aside0.mk H
         clear H
         go_wp2
         go_roundg k2
         case measure => have := HK1.out; have := HK2.out; omega
         case rel => exact ⟨(wrap64 (x16_1 + 1)), smpA, H', ⟨by have := HK1.out; have := HK2.out; omega⟩, ⟨blkA BK120.out⟩, ⟨belA HB.out⟩⟩
     ·rw [if_neg c8] at H
      exact absurd H (by simp)
    ·rw [if_neg c7] at H
     exact absurd H (by simp)
   ·rw [if_neg c6] at H
    have c6b0 : decide (x16_1 < (l0_2.length : Int)) = false := decide_eq_false c6
    clear c6
    obtain rfl := Option.some.inj H
    go_wp2
    go_ret
    exact ⟨errA, belA HB.out⟩

end Go.Proofs.Ytbbnagjfjgkgjaa.L
