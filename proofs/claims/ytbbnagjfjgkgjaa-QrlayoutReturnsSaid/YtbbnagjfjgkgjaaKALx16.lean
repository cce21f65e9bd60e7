-- Written by a program of this session out of the kit's print of the loaded functions (see wip/).
import Derived.Test.YtbbnagjfjgkgjaaKALx0
namespace Go.Proofs.Ytbbnagjfjgkgjaa.L
open Go.RowKit Go.Proofs.YtbbnagjfjgkgjaaW.PrintWords Go.Proofs.YtbbnagjfjgkgjaaW.PrintLast Go.Proofs.YtbbnagjfjgkgjaaW.PrintMore
attribute [local go_sem] max2_int min2_int max_two min_two max_three min_three max_four min_four   -- for this text's walks alone
set_option linter.unusedVariables false
set_option linter.unusedSimpArgs false

def barscanref01_Same.l0 : Nat → List Bool → List Bool → Int → Option (Bool)
 | 0, _, _, _ => none
 | k + 1, x0, x1, x5 => if x5 < (x0.length : Int) then (if 0 ≤ x5 then (if x5 < (x1.length : Int) then (if ((rdOf false x0 x5) != (rdOf false x1 x5)) = true then (some false) else (barscanref01_Same.l0 k x0 x1 (wrap64 (x5 + 1)))) else (none)) else (none)) else (some true)
def barscanref01_Same.f (k : Nat) (l0 : List Bool) (l1 : List Bool) : Option (Bool) := if (l0.length : Int) = (l1.length : Int) then (barscanref01_Same.l0 k l0 l1 0) else (some false)
set_option maxHeartbeats 8000000 in
set_option maxRecDepth 100000 in
theorem barscanref01_Same.calls (k : Nat) (A0 : Option Addr) (c0 : Nat) (l0 : List Bool) (A1 : Option Addr) (c1 : Nat) (l1 : List Bool) (r : Bool) (w : World) (hr0 : Kd.C Kd.bool w A0 l0.length l0) (hc0 : l0.length ≤ c0) (hr1 : Kd.C Kd.bool w A1 l1.length l1) (hc1 : l1.length ≤ c1) (h : barscanref01_Same.f k l0 l1 = some r) :
  Calls Try.prog 43 #[.slice A0 l0.length c0, .slice A1 l1.length c1] w fun e w' => e = .returned (.bool r) ∧ Drawn0 w w' := by
 have HR0 := Aside0.mk hr0
 have HC0 := Aside0.mk hc0
 clear hr0 hc0
 have HR1 := Aside0.mk hr1
 have HC1 := Aside0.mk hc1
 clear hr1 hc1
 have H : (if (l0.length : Int) = (l1.length : Int) then (barscanref01_Same.l0 k l0 l1 0) else (some false)) = some r := h
 clear h
 by_cases c3 : (l0.length : Int) = (l1.length : Int)
 ·rw [if_pos c3] at H
  have c3b0 : ((l0.length : Int) == (l1.length : Int)) = true := beq_iff_eq.mpr c3
  have c3b1 : ((l0.length : Int) != (l1.length : Int)) = false := bne_eq_false_iff_eq.mpr c3
  have c3b2 : (l0.length == l1.length) = true := by first | simpa using c3 | (simp at c3 ⊢; omega)
  clear c3
  have H' := Aside0.mk H
  clear H
  go_enter Try.func43, Try.ntmps43
  go_wp2
  repeat (go_quiet (fail); try go_wp2)
  go_loopg [5] k (fun kq v5 w' => ∃ (x5_1 : Int), v5 = .int .i64 x5_1 ∧ Aside0 (barscanref01_Same.l0 kq l0 l1 x5_1 = some r) ∧ Aside0 (kq ≤ k) ∧ Drawn0 w w')
  case atStart => exact ⟨(0), smpA, H', ⟨Nat.le_refl _⟩, by repeat (first | exact Drawn0.refl _ | apply Drawn0.step)⟩
  case round =>
   clear H'
   try clear c1
   try clear p2
   try clear c3
   try clear c3b0
   try clear c3b1
   try clear c3b2
   obtain ⟨x5_1, rfl, HA, HK1, ⟨m1, rfl⟩⟩ := hrel
   cases gk with
   | zero => exact absurd HA.out (by simp [barscanref01_Same.l0])
   | succ k1 =>
    have H := HA.out
    clear HA
    simp only [barscanref01_Same.l0] at H
    by_cases c4 : x5_1 < (l0.length : Int)
    ·rw [if_pos c4] at H
     have c4b0 : decide (x5_1 < (l0.length : Int)) = true := decide_eq_true c4
     clear c4
     by_cases c5 : 0 ≤ x5_1
     ·rw [if_pos c5] at H
      have c5b0 : decide (0 ≤ x5_1) = true := decide_eq_true c5
      clear c5
      by_cases c6 : x5_1 < (l1.length : Int)
      ·rw [if_pos c6] at H
       have c6b0 : decide (x5_1 < (l1.length : Int)) = true := decide_eq_true c6
       clear c6
       by_cases c7 : ((rdOf false l0 x5_1) != (rdOf false l1 x5_1)) = true
       ·rw [if_pos c7] at H
        have c7b0 : ((rdOf false l0 x5_1) != (rdOf false l1 x5_1)) = true := c7
        (try (have c7b1 : decide ((rdOf false l0 x5_1) = (rdOf false l1 x5_1)) = false := by simpa using c7))
        (try (have c7b2 : ((rdOf false l0 x5_1) == (rdOf false l1 x5_1)) = false := by simpa using c7))
        (try (have c7b3 : ¬ ((rdOf false l0 x5_1) = (rdOf false l1 x5_1)) := by simpa using c7))
        clear c7
        obtain rfl := Option.some.inj H
        have p346 : 0 ≤ (x5_1 : Int) := of_decide_eq_true (by first | (with_reducible assumption) | assumption)
        have q346 : x5_1 < (l0.length : Int) := of_decide_eq_true (by first | (with_reducible assumption) | assumption)
        obtain ⟨ad346, e346, hx346_0⟩ := Kd.at_bool HR0.out x5_1 p346 q346
        cases e346
        replace p346 := eq_true p346
        replace q346 := eq_true q346
        have p347 : 0 ≤ (x5_1 : Int) := of_decide_eq_true (by first | (with_reducible assumption) | assumption)
        have q347 : x5_1 < (l1.length : Int) := of_decide_eq_true (by first | (with_reducible assumption) | assumption)
        obtain ⟨ad347, e347, hx347_0⟩ := Kd.at_bool HR1.out x5_1 p347 q347
        cases e347
        replace p347 := eq_true p347
        replace q347 := eq_true q347
        go_wp2
        repeat (go_quiet (fail); try go_wp2)
        go_ret
        exact ⟨by first | rfl | (simp; done) | (simp [*]; done), by repeat (first | exact Drawn0.refl _ | apply Drawn0.step)⟩
       ·rw [if_neg c7] at H
        have c7b0 : ((rdOf false l0 x5_1) != (rdOf false l1 x5_1)) = false := by simpa using c7
        (try (have c7b1 : decide ((rdOf false l0 x5_1) = (rdOf false l1 x5_1)) = true := by simpa using c7))
        (try (have c7b2 : ((rdOf false l0 x5_1) == (rdOf false l1 x5_1)) = true := by simpa using c7))
        clear c7
        have H' := Aside0.mk H
        clear H
        have p346 : 0 ≤ (x5_1 : Int) := of_decide_eq_true (by first | (with_reducible assumption) | assumption)
        have q346 : x5_1 < (l0.length : Int) := of_decide_eq_true (by first | (with_reducible assumption) | assumption)
        obtain ⟨ad346, e346, hx346_0⟩ := Kd.at_bool HR0.out x5_1 p346 q346
        cases e346
        replace p346 := eq_true p346
        replace q346 := eq_true q346
        have p347 : 0 ≤ (x5_1 : Int) := of_decide_eq_true (by first | (with_reducible assumption) | assumption)
        have q347 : x5_1 < (l1.length : Int) := of_decide_eq_true (by first | (with_reducible assumption) | assumption)
        obtain ⟨ad347, e347, hx347_0⟩ := Kd.at_bool HR1.out x5_1 p347 q347
        cases e347
        replace p347 := eq_true p347
        replace q347 := eq_true q347
        go_wp2
        repeat (go_quiet (fail); try go_wp2)
        go_roundg k1
        case measure => have := HK1.out; omega
        case rel => exact ⟨(wrap64 (x5_1 + 1)), smpA, H', ⟨by have := HK1.out; omega⟩, by repeat (first | exact Drawn0.refl _ | apply Drawn0.step)⟩
      ·rw [if_neg c6] at H
       exact absurd H (by simp)
     ·rw [if_neg c5] at H
      exact absurd H (by simp)
    ·rw [if_neg c4] at H
     have c4b0 : decide (x5_1 < (l0.length : Int)) = false := decide_eq_false c4
     clear c4
     obtain rfl := Option.some.inj H
     go_wp2
     repeat (go_quiet (fail); try go_wp2)
     go_ret
     exact ⟨by first | rfl | (simp; done) | (simp [*]; done), by repeat (first | exact Drawn0.refl _ | apply Drawn0.step)⟩
 ·rw [if_neg c3] at H
  have c3b0 : ((l0.length : Int) == (l1.length : Int)) = false := beq_eq_false_iff_ne.mpr c3
  have c3b1 : ((l0.length : Int) != (l1.length : Int)) = true := bne_iff_ne.mpr c3
  have c3b2 : (l0.length == l1.length) = false := by first | simpa using c3 | (simp at c3 ⊢; omega)
  obtain rfl := Option.some.inj H
  go_enter Try.func43, Try.ntmps43
  go_wp2
  repeat (go_quiet (fail); try go_wp2)
  go_ret
  exact ⟨by first | rfl | (simp; done) | (simp [*]; done), by repeat (first | exact Drawn0.refl _ | apply Drawn0.step)⟩

def barscanref20_Same.f (k : Nat) (a0_0 : Int) (a0_1 : Int) (l0_2 : List Bool) (a1_0 : Int) (a1_1 : Int) (l1_2 : List Bool) : Option (Bool) := if a0_0 = a1_0 then (if a0_1 = a1_1 then ((barscanref01_Same.f k l0_2 l1_2).bind fun t350 => (some t350)) else (some false)) else (some false)
set_option maxHeartbeats 8000000 in
set_option maxRecDepth 100000 in
theorem barscanref20_Same.calls (k : Nat) (a0_0 : Int) (a0_1 : Int) (A0_2 : Option Addr) (c0_2 : Nat) (l0_2 : List Bool) (a1_0 : Int) (a1_1 : Int) (A1_2 : Option Addr) (c1_2 : Nat) (l1_2 : List Bool) (r : Bool) (w : World) (hr0_2 : Kd.C Kd.bool w A0_2 l0_2.length l0_2) (hc0_2 : l0_2.length ≤ c0_2) (hr1_2 : Kd.C Kd.bool w A1_2 l1_2.length l1_2) (hc1_2 : l1_2.length ≤ c1_2) (h : barscanref20_Same.f k a0_0 a0_1 l0_2 a1_0 a1_1 l1_2 = some r) :
  Calls Try.prog 16 #[.agg #[.int .i64 a0_0, .int .i64 a0_1, .slice A0_2 l0_2.length c0_2], .agg #[.int .i64 a1_0, .int .i64 a1_1, .slice A1_2 l1_2.length c1_2]] w fun e w' => e = .returned (.bool r) ∧ Below w.heap.size w w' := by
 have hu24 := Try.underlying24
 have HR0_2 := Aside0.mk hr0_2
 have HC0_2 := Aside0.mk hc0_2
 clear hr0_2 hc0_2
 have HR1_2 := Aside0.mk hr1_2
 have HC1_2 := Aside0.mk hc1_2
 clear hr1_2 hc1_2
 have HB := Aside0.mk (Below.refl w.heap.size w)
 have H : (if a0_0 = a1_0 then (if a0_1 = a1_1 then ((barscanref01_Same.f k l0_2 l1_2).bind fun t350 => (some t350)) else (some false)) else (some false)) = some r := h
 clear h
 by_cases c3 : a0_0 = a1_0
 ·rw [if_pos c3] at H
  have c3b0 : (a0_0 == a1_0) = true := beq_iff_eq.mpr c3
  have c3b1 : (a0_0 != a1_0) = false := bne_eq_false_iff_eq.mpr c3
  clear c3
  by_cases c4 : a0_1 = a1_1
  ·rw [if_pos c4] at H
   have c4b0 : (a0_1 == a1_1) = true := beq_iff_eq.mpr c4
   have c4b1 : (a0_1 != a1_1) = false := bne_eq_false_iff_eq.mpr c4
   clear c4
   replace H := Option.bind_eq_some_iff.mp H
   obtain ⟨t350, A50, H⟩ := H
   replace H : (some t350) = some r := H
   have A5 := Aside0.mk A50
   clear A50
   obtain rfl := Option.some.inj H
   go_enter Try.func16, Try.ntmps16
   go_wp2_with (first | ((with_reducible refine gate_dst (N := 2) rfl ?_); refine boxE (N := 2) (cs := #[.int .i64 a0_0, .int .i64 a0_1, .slice A0_2 l0_2.length c0_2]) (t := 24) ?_; intro gb348 hg w6 hbox hb; have BK348 := Aside0.mk (hbox); have GW348 := Aside0.mk ((szA hg HB.out : w.heap.size ≤ gb348)); have GE348 := Aside0.mk ((szA hg HB.out : w.heap.size ≤ gb348)); replace HB := Aside0.mk (below_step (belA HB.out) hb); clear hb hbox hg) | ((with_reducible refine gate_dst (N := 3) rfl ?_); refine boxE (N := 3) (cs := #[.int .i64 a1_0, .int .i64 a1_1, .slice A1_2 l1_2.length c1_2]) (t := 24) ?_; intro gb349 hg w7 hbox hb; have BK349 := Aside0.mk (hbox); have GW349 := Aside0.mk ((szA hg HB.out : w.heap.size ≤ gb349)); have GE349 := Aside0.mk ((szA hg HB.out : w.heap.size ≤ gb349)); have NB348_349 := Aside0.mk ((neL hg BK348.out : gb348 ≠ gb349)); have NB349_348 := Aside0.mk ((neG hg BK348.out : gb349 ≠ gb348)); replace BK348 := Aside0.mk (blk_below (g := gb348) (o := .cells #[.int .i64 a0_0, .int .i64 a0_1, .slice A0_2 l0_2.length c0_2] 24 (0, 0)) (blkA BK348.out) hb); replace HB := Aside0.mk (below_step (belA HB.out) hb); clear hb hbox hg; have hnb8 := NB348_349.out; have hnc8 := NB349_348.out; obtain ⟨hcz9_0, hcz9_1, hcz9_2, hfz9_0, hfz9_1, hfz9_2⟩ := bk3 BK348.out; obtain ⟨hcz10_0, hcz10_1, hcz10_2, hfz10_0, hfz10_1, hfz10_2⟩ := bk3 BK349.out) | (go_at_call 43; (with_reducible refine (barscanref01_Same.calls k _ _ l0_2 _ _ l1_2 t350 _ ?side1 ?side2 ?side3 ?side4 A5.out).mono ?_); (case side1 => exact lowA (Kd.C_below HR0_2.out HB.out)); (case side2 => exact HC0_2.out); (case side3 => exact lowA (Kd.C_below HR1_2.out HB.out)); (case side4 => exact HC1_2.out); rintro e w' ⟨rfl, ⟨nd, rfl⟩⟩))
   go_ret
   exact ⟨errA, belA HB.out⟩
  ·rw [if_neg c4] at H
   have c4b0 : (a0_1 == a1_1) = false := beq_eq_false_iff_ne.mpr c4
   have c4b1 : (a0_1 != a1_1) = true := bne_iff_ne.mpr c4
   obtain rfl := Option.some.inj H
   go_enter Try.func16, Try.ntmps16
   go_wp2_with (first | ((with_reducible refine gate_dst (N := 2) rfl ?_); refine boxE (N := 2) (cs := #[.int .i64 a0_0, .int .i64 a0_1, .slice A0_2 l0_2.length c0_2]) (t := 24) ?_; intro gb348 hg w11 hbox hb; have BK348 := Aside0.mk (hbox); have GW348 := Aside0.mk ((szA hg HB.out : w.heap.size ≤ gb348)); have GE348 := Aside0.mk ((szA hg HB.out : w.heap.size ≤ gb348)); replace HB := Aside0.mk (below_step (belA HB.out) hb); clear hb hbox hg) | ((with_reducible refine gate_dst (N := 3) rfl ?_); refine boxE (N := 3) (cs := #[.int .i64 a1_0, .int .i64 a1_1, .slice A1_2 l1_2.length c1_2]) (t := 24) ?_; intro gb349 hg w12 hbox hb; have BK349 := Aside0.mk (hbox); have GW349 := Aside0.mk ((szA hg HB.out : w.heap.size ≤ gb349)); have GE349 := Aside0.mk ((szA hg HB.out : w.heap.size ≤ gb349)); have NB348_349 := Aside0.mk ((neL hg BK348.out : gb348 ≠ gb349)); have NB349_348 := Aside0.mk ((neG hg BK348.out : gb349 ≠ gb348)); replace BK348 := Aside0.mk (blk_below (g := gb348) (o := .cells #[.int .i64 a0_0, .int .i64 a0_1, .slice A0_2 l0_2.length c0_2] 24 (0, 0)) (blkA BK348.out) hb); replace HB := Aside0.mk (below_step (belA HB.out) hb); clear hb hbox hg; have hnb13 := NB348_349.out; have hnc13 := NB349_348.out; obtain ⟨hcz14_0, hcz14_1, hcz14_2, hfz14_0, hfz14_1, hfz14_2⟩ := bk3 BK348.out; obtain ⟨hcz15_0, hcz15_1, hcz15_2, hfz15_0, hfz15_1, hfz15_2⟩ := bk3 BK349.out))
   go_ret
   exact ⟨errA, belA HB.out⟩
 ·rw [if_neg c3] at H
  have c3b0 : (a0_0 == a1_0) = false := beq_eq_false_iff_ne.mpr c3
  have c3b1 : (a0_0 != a1_0) = true := bne_iff_ne.mpr c3
  obtain rfl := Option.some.inj H
  go_enter Try.func16, Try.ntmps16
  go_wp2_with (first | ((with_reducible refine gate_dst (N := 2) rfl ?_); refine boxE (N := 2) (cs := #[.int .i64 a0_0, .int .i64 a0_1, .slice A0_2 l0_2.length c0_2]) (t := 24) ?_; intro gb348 hg w16 hbox hb; have BK348 := Aside0.mk (hbox); have GW348 := Aside0.mk ((szA hg HB.out : w.heap.size ≤ gb348)); have GE348 := Aside0.mk ((szA hg HB.out : w.heap.size ≤ gb348)); replace HB := Aside0.mk (below_step (belA HB.out) hb); clear hb hbox hg) | ((with_reducible refine gate_dst (N := 3) rfl ?_); refine boxE (N := 3) (cs := #[.int .i64 a1_0, .int .i64 a1_1, .slice A1_2 l1_2.length c1_2]) (t := 24) ?_; intro gb349 hg w17 hbox hb; have BK349 := Aside0.mk (hbox); have GW349 := Aside0.mk ((szA hg HB.out : w.heap.size ≤ gb349)); have GE349 := Aside0.mk ((szA hg HB.out : w.heap.size ≤ gb349)); have NB348_349 := Aside0.mk ((neL hg BK348.out : gb348 ≠ gb349)); have NB349_348 := Aside0.mk ((neG hg BK348.out : gb349 ≠ gb348)); replace BK348 := Aside0.mk (blk_below (g := gb348) (o := .cells #[.int .i64 a0_0, .int .i64 a0_1, .slice A0_2 l0_2.length c0_2] 24 (0, 0)) (blkA BK348.out) hb); replace HB := Aside0.mk (below_step (belA HB.out) hb); clear hb hbox hg; have hnb18 := NB348_349.out; have hnc18 := NB349_348.out; obtain ⟨hcz19_0, hcz19_1, hcz19_2, hfz19_0, hfz19_1, hfz19_2⟩ := bk3 BK348.out; obtain ⟨hcz20_0, hcz20_1, hcz20_2, hfz20_0, hfz20_1, hfz20_2⟩ := bk3 BK349.out))
  go_ret
  exact ⟨errA, belA HB.out⟩

def barscanref20_VersionAt.f (a0 : Int) (a1 : Int) (a2 : Int) : Option (Int × Int) := if a1 = 1 then (some (wrap64 (Int.tdiv a2 3), wrap64 ((wrap64 (a0 - 11)) + (Int.tmod a2 3)))) else (some (wrap64 ((wrap64 (a0 - 11)) + (Int.tmod a2 3)), wrap64 (Int.tdiv a2 3)))
def barscanref20_FormatAt.j0 : Nat → Int → Int → Int → Bool → Option (Int × Int)
 | 0, _, _, _, _ => none
 | k + 1, x0, x1, x2, x7 => if x7 = true then (some (wrap64 ((wrap64 (x0 - 1)) - x2), 8)) else (if x1 = 1 then (some (8, wrap64 ((wrap64 (x0 - 15)) + x2))) else (if x2 < 6 then (some (8, x2)) else (if x2 < 8 then (some (8, wrap64 (x2 + 1))) else (if x2 = 8 then (some (7, 8)) else (some (wrap64 (14 - x2), 8))))))
def barscanref20_FormatAt.f (k : Nat) (a0 : Int) (a1 : Int) (a2 : Int) : Option (Int × Int) := if a1 = 1 then (barscanref20_FormatAt.j0 k a0 a1 a2 (decide (a2 < 8))) else (barscanref20_FormatAt.j0 k a0 a1 a2 false)
def barscanref20_Sound.f (a0_0 : Int) (a0_1 : Int) (l0_2 : List Bool) : Option (Bool) := if a0_0 ≥ 1 then (if a0_0 ≤ 4096 then (if a0_1 ≥ 1 then (if a0_1 ≤ 4096 then (if (wrap64 (a0_0 * a0_1)) ≤ 4194304 then (some ((l0_2.length : Int) == (wrap64 (a0_0 * a0_1)))) else (some false)) else (some false)) else (some false)) else (some false)) else (some false)
set_option maxHeartbeats 8000000 in
set_option maxRecDepth 100000 in
theorem barscanref20_Sound.calls (a0_0 : Int) (a0_1 : Int) (A0_2 : Option Addr) (c0_2 : Nat) (l0_2 : List Bool) (r : Bool) (w : World) (hr0_2 : Kd.C Kd.bool w A0_2 l0_2.length l0_2) (hc0_2 : l0_2.length ≤ c0_2) (h : barscanref20_Sound.f a0_0 a0_1 l0_2 = some r) :
  Calls Try.prog 68 #[.agg #[.int .i64 a0_0, .int .i64 a0_1, .slice A0_2 l0_2.length c0_2]] w fun e w' => e = .returned (.bool r) ∧ Below w.heap.size w w' := by
 have hu24 := Try.underlying24
 have HR0_2 := Aside0.mk hr0_2
 have HC0_2 := Aside0.mk hc0_2
 clear hr0_2 hc0_2
 have HB := Aside0.mk (Below.refl w.heap.size w)
 have H : (if a0_0 ≥ 1 then (if a0_0 ≤ 4096 then (if a0_1 ≥ 1 then (if a0_1 ≤ 4096 then (if (wrap64 (a0_0 * a0_1)) ≤ 4194304 then (some ((l0_2.length : Int) == (wrap64 (a0_0 * a0_1)))) else (some false)) else (some false)) else (some false)) else (some false)) else (some false)) = some r := h
 clear h
 by_cases c2 : a0_0 ≥ 1
 ·rw [if_pos c2] at H
  have c2b0 : decide (1 ≤ a0_0) = true := decide_eq_true c2
  clear c2
  by_cases c3 : a0_0 ≤ 4096
  ·rw [if_pos c3] at H
   have c3b0 : decide (a0_0 ≤ 4096) = true := decide_eq_true c3
   clear c3
   by_cases c4 : a0_1 ≥ 1
   ·rw [if_pos c4] at H
    have c4b0 : decide (1 ≤ a0_1) = true := decide_eq_true c4
    clear c4
    by_cases c5 : a0_1 ≤ 4096
    ·rw [if_pos c5] at H
     have c5b0 : decide (a0_1 ≤ 4096) = true := decide_eq_true c5
     clear c5
     by_cases c6 : (wrap64 (a0_0 * a0_1)) ≤ 4194304
     ·rw [if_pos c6] at H
      have c6b0 : decide ((wrap64 (a0_0 * a0_1)) ≤ 4194304) = true := decide_eq_true c6
      clear c6
      obtain rfl := Option.some.inj H
      go_enter Try.func68, Try.ntmps68
      go_wp2_with (first | ((with_reducible refine gate_dst (N := 1) rfl ?_); (try (refine gate_guard (by rfl) ?_; dsimp only)); refine boxE (N := 1) (cs := #[.int .i64 a0_0, .int .i64 a0_1, .slice A0_2 l0_2.length c0_2]) (t := 24) ?_; intro gb353 hg w7 hbox hb; have BK353 := Aside0.mk (hbox); have GW353 := Aside0.mk ((szA hg HB.out : w.heap.size ≤ gb353)); have GE353 := Aside0.mk ((szA hg HB.out : w.heap.size ≤ gb353)); replace HB := Aside0.mk (below_step (belA HB.out) hb); clear hb hbox hg; obtain ⟨hcz8_0, hcz8_1, hcz8_2, hfz8_0, hfz8_1, hfz8_2⟩ := bk3 BK353.out))
      go_ret
      exact ⟨errA, belA HB.out⟩
     ·rw [if_neg c6] at H
      have c6b0 : decide ((wrap64 (a0_0 * a0_1)) ≤ 4194304) = false := decide_eq_false c6
      clear c6
      obtain rfl := Option.some.inj H
      go_enter Try.func68, Try.ntmps68
      go_wp2_with (first | ((with_reducible refine gate_dst (N := 1) rfl ?_); (try (refine gate_guard (by rfl) ?_; dsimp only)); refine boxE (N := 1) (cs := #[.int .i64 a0_0, .int .i64 a0_1, .slice A0_2 l0_2.length c0_2]) (t := 24) ?_; intro gb353 hg w9 hbox hb; have BK353 := Aside0.mk (hbox); have GW353 := Aside0.mk ((szA hg HB.out : w.heap.size ≤ gb353)); have GE353 := Aside0.mk ((szA hg HB.out : w.heap.size ≤ gb353)); replace HB := Aside0.mk (below_step (belA HB.out) hb); clear hb hbox hg; obtain ⟨hcz10_0, hcz10_1, hcz10_2, hfz10_0, hfz10_1, hfz10_2⟩ := bk3 BK353.out))
      go_ret
      exact ⟨errA, belA HB.out⟩
    ·rw [if_neg c5] at H
     have c5b0 : decide (a0_1 ≤ 4096) = false := decide_eq_false c5
     clear c5
     obtain rfl := Option.some.inj H
     go_enter Try.func68, Try.ntmps68
     go_wp2_with (first | ((with_reducible refine gate_dst (N := 1) rfl ?_); (try (refine gate_guard (by rfl) ?_; dsimp only)); refine boxE (N := 1) (cs := #[.int .i64 a0_0, .int .i64 a0_1, .slice A0_2 l0_2.length c0_2]) (t := 24) ?_; intro gb353 hg w11 hbox hb; have BK353 := Aside0.mk (hbox); have GW353 := Aside0.mk ((szA hg HB.out : w.heap.size ≤ gb353)); have GE353 := Aside0.mk ((szA hg HB.out : w.heap.size ≤ gb353)); replace HB := Aside0.mk (below_step (belA HB.out) hb); clear hb hbox hg; obtain ⟨hcz12_0, hcz12_1, hcz12_2, hfz12_0, hfz12_1, hfz12_2⟩ := bk3 BK353.out))
     go_ret
     exact ⟨errA, belA HB.out⟩
   ·rw [if_neg c4] at H
    have c4b0 : decide (1 ≤ a0_1) = false := decide_eq_false c4
    clear c4
    obtain rfl := Option.some.inj H
    go_enter Try.func68, Try.ntmps68
    go_wp2_with (first | ((with_reducible refine gate_dst (N := 1) rfl ?_); (try (refine gate_guard (by rfl) ?_; dsimp only)); refine boxE (N := 1) (cs := #[.int .i64 a0_0, .int .i64 a0_1, .slice A0_2 l0_2.length c0_2]) (t := 24) ?_; intro gb353 hg w13 hbox hb; have BK353 := Aside0.mk (hbox); have GW353 := Aside0.mk ((szA hg HB.out : w.heap.size ≤ gb353)); have GE353 := Aside0.mk ((szA hg HB.out : w.heap.size ≤ gb353)); replace HB := Aside0.mk (below_step (belA HB.out) hb); clear hb hbox hg; obtain ⟨hcz14_0, hcz14_1, hcz14_2, hfz14_0, hfz14_1, hfz14_2⟩ := bk3 BK353.out))
    go_ret
    exact ⟨errA, belA HB.out⟩
  ·rw [if_neg c3] at H
   have c3b0 : decide (a0_0 ≤ 4096) = false := decide_eq_false c3
   clear c3
   obtain rfl := Option.some.inj H
   go_enter Try.func68, Try.ntmps68
   go_wp2_with (first | ((with_reducible refine gate_dst (N := 1) rfl ?_); (try (refine gate_guard (by rfl) ?_; dsimp only)); refine boxE (N := 1) (cs := #[.int .i64 a0_0, .int .i64 a0_1, .slice A0_2 l0_2.length c0_2]) (t := 24) ?_; intro gb353 hg w15 hbox hb; have BK353 := Aside0.mk (hbox); have GW353 := Aside0.mk ((szA hg HB.out : w.heap.size ≤ gb353)); have GE353 := Aside0.mk ((szA hg HB.out : w.heap.size ≤ gb353)); replace HB := Aside0.mk (below_step (belA HB.out) hb); clear hb hbox hg; obtain ⟨hcz16_0, hcz16_1, hcz16_2, hfz16_0, hfz16_1, hfz16_2⟩ := bk3 BK353.out))
   go_ret
   exact ⟨errA, belA HB.out⟩
 ·rw [if_neg c2] at H
  have c2b0 : decide (1 ≤ a0_0) = false := decide_eq_false c2
  clear c2
  obtain rfl := Option.some.inj H
  go_enter Try.func68, Try.ntmps68
  go_wp2_with (first | ((with_reducible refine gate_dst (N := 1) rfl ?_); (try (refine gate_guard (by rfl) ?_; dsimp only)); refine boxE (N := 1) (cs := #[.int .i64 a0_0, .int .i64 a0_1, .slice A0_2 l0_2.length c0_2]) (t := 24) ?_; intro gb353 hg w17 hbox hb; have BK353 := Aside0.mk (hbox); have GW353 := Aside0.mk ((szA hg HB.out : w.heap.size ≤ gb353)); have GE353 := Aside0.mk ((szA hg HB.out : w.heap.size ≤ gb353)); replace HB := Aside0.mk (below_step (belA HB.out) hb); clear hb hbox hg; obtain ⟨hcz18_0, hcz18_1, hcz18_2, hfz18_0, hfz18_1, hfz18_2⟩ := bk3 BK353.out))
  go_ret
  exact ⟨errA, belA HB.out⟩

def barscanref20_Version.f (a0_0 : Int) (a0_1 : Int) (l0_2 : List Bool) : Option (Int × Int) := (barscanref20_Sound.f a0_0 a0_1 l0_2).bind fun t355 => (if t355 = true then (if a0_0 = a0_1 then (if a0_0 < 21 then (some (0, 23)) else (if a0_0 > 177 then (some (0, 23)) else (if (Int.tmod a0_0 4) = 1 then (some (wrap64 (Int.tdiv (wrap64 (a0_0 - 17)) 4), 0)) else (some (0, 23))))) else (some (0, 23))) else (some (0, 1)))
set_option maxHeartbeats 8000000 in
set_option maxRecDepth 100000 in
theorem barscanref20_Version.calls (a0_0 : Int) (a0_1 : Int) (A0_2 : Option Addr) (c0_2 : Nat) (l0_2 : List Bool) (r1 : Int) (r2 : Int) (w : World) (hr0_2 : Kd.C Kd.bool w A0_2 l0_2.length l0_2) (hc0_2 : l0_2.length ≤ c0_2) (h : barscanref20_Version.f a0_0 a0_1 l0_2 = some (r1, r2)) :
  Calls Try.prog 35 #[.agg #[.int .i64 a0_0, .int .i64 a0_1, .slice A0_2 l0_2.length c0_2]] w fun e w' => e = .returned (.tuple #[.int .i64 r1, .int .i64 r2]) ∧ Below w.heap.size w w' := by
 have hu24 := Try.underlying24
 have HR0_2 := Aside0.mk hr0_2
 have HC0_2 := Aside0.mk hc0_2
 clear hr0_2 hc0_2
 have HB := Aside0.mk (Below.refl w.heap.size w)
 have H : ((barscanref20_Sound.f a0_0 a0_1 l0_2).bind fun t355 => (if t355 = true then (if a0_0 = a0_1 then (if a0_0 < 21 then (some (0, 23)) else (if a0_0 > 177 then (some (0, 23)) else (if (Int.tmod a0_0 4) = 1 then (some (wrap64 (Int.tdiv (wrap64 (a0_0 - 17)) 4), 0)) else (some (0, 23))))) else (some (0, 23))) else (some (0, 1)))) = some (r1, r2) := h
 clear h
 replace H := Option.bind_eq_some_iff.mp H
 obtain ⟨t355, A20, H⟩ := H
 replace H : (if t355 = true then (if a0_0 = a0_1 then (if a0_0 < 21 then (some (0, 23)) else (if a0_0 > 177 then (some (0, 23)) else (if (Int.tmod a0_0 4) = 1 then (some (wrap64 (Int.tdiv (wrap64 (a0_0 - 17)) 4), 0)) else (some (0, 23))))) else (some (0, 23))) else (some (0, 1))) = some (r1, r2) := H
 have A2 := Aside0.mk A20
 clear A20
 by_cases c3 : t355 = true
 ·subst c3
  have H1 : (if a0_0 = a0_1 then (if a0_0 < 21 then (some (0, 23)) else (if a0_0 > 177 then (some (0, 23)) else (if (Int.tmod a0_0 4) = 1 then (some (wrap64 (Int.tdiv (wrap64 (a0_0 - 17)) 4), 0)) else (some (0, 23))))) else (some (0, 23))) = some (r1, r2) := by rw [if_pos rfl] at H; exact H
  clear H
  have H := H1
  clear H1
  by_cases c4 : a0_0 = a0_1
  ·rw [if_pos c4] at H
   have c4b0 : (a0_0 == a0_1) = true := beq_iff_eq.mpr c4
   have c4b1 : (a0_0 != a0_1) = false := bne_eq_false_iff_eq.mpr c4
   clear c4
   by_cases c5 : a0_0 < 21
   ·rw [if_pos c5] at H
    have c5b0 : decide (a0_0 < 21) = true := decide_eq_true c5
    clear c5
    simp only [Option.some.injEq, Prod.mk.injEq] at H
    obtain ⟨rfl, rfl⟩ := H
    go_enter Try.func35, Try.ntmps35
    go_wp2_with (first | ((with_reducible refine gate_dst (N := 1) rfl ?_); refine boxE (N := 1) (cs := #[.int .i64 a0_0, .int .i64 a0_1, .slice A0_2 l0_2.length c0_2]) (t := 24) ?_; intro gb354 hg w6 hbox hb; have BK354 := Aside0.mk (hbox); have GW354 := Aside0.mk ((szA hg HB.out : w.heap.size ≤ gb354)); have GE354 := Aside0.mk ((szA hg HB.out : w.heap.size ≤ gb354)); replace HB := Aside0.mk (below_step (belA HB.out) hb); clear hb hbox hg; obtain ⟨hcz7_0, hcz7_1, hcz7_2, hfz7_0, hfz7_1, hfz7_2⟩ := bk3 BK354.out) | ((with_reducible refine gate_callee (f := 68) rfl ?_); refine goesL_ (some 5) rfl rfl Try.func68 (by kernel_rfl) rfl #[.agg #[.int .i64 a0_0, .int .i64 a0_1, .slice A0_2 l0_2.length c0_2]] rfl argA ?_; (with_reducible refine (barscanref20_Sound.calls a0_0 a0_1 _ _ l0_2 true _ ?side1 ?side2 A2.out).mono ?_); (case side1 => exact lowA (Kd.C_below HR0_2.out HB.out)); (case side2 => exact HC0_2.out); rintro e w8 ⟨rfl, hb⟩; refine ⟨_, rfl, ?_⟩; replace BK354 := Aside0.mk (blk_below (g := gb354) (o := .cells #[.int .i64 a0_0, .int .i64 a0_1, .slice A0_2 l0_2.length c0_2] 24 (0, 0)) (blkA BK354.out) hb); replace HB := Aside0.mk (below_step (belA HB.out) hb); (try clear hb); (try clear hb2); (try clear hk); (try clear hi); obtain ⟨hcz9_0, hcz9_1, hcz9_2, hfz9_0, hfz9_1, hfz9_2⟩ := bk3 BK354.out))
    go_ret2
    exact ⟨errA, belA HB.out⟩
   ·rw [if_neg c5] at H
    have c5b0 : decide (a0_0 < 21) = false := decide_eq_false c5
    clear c5
    by_cases c10 : a0_0 > 177
    ·rw [if_pos c10] at H
     have c10b0 : decide (177 < a0_0) = true := decide_eq_true c10
     clear c10
     simp only [Option.some.injEq, Prod.mk.injEq] at H
     obtain ⟨rfl, rfl⟩ := H
     go_enter Try.func35, Try.ntmps35
     go_wp2_with (first | ((with_reducible refine gate_dst (N := 1) rfl ?_); refine boxE (N := 1) (cs := #[.int .i64 a0_0, .int .i64 a0_1, .slice A0_2 l0_2.length c0_2]) (t := 24) ?_; intro gb354 hg w11 hbox hb; have BK354 := Aside0.mk (hbox); have GW354 := Aside0.mk ((szA hg HB.out : w.heap.size ≤ gb354)); have GE354 := Aside0.mk ((szA hg HB.out : w.heap.size ≤ gb354)); replace HB := Aside0.mk (below_step (belA HB.out) hb); clear hb hbox hg; obtain ⟨hcz12_0, hcz12_1, hcz12_2, hfz12_0, hfz12_1, hfz12_2⟩ := bk3 BK354.out) | ((with_reducible refine gate_callee (f := 68) rfl ?_); refine goesL_ (some 5) rfl rfl Try.func68 (by kernel_rfl) rfl #[.agg #[.int .i64 a0_0, .int .i64 a0_1, .slice A0_2 l0_2.length c0_2]] rfl argA ?_; (with_reducible refine (barscanref20_Sound.calls a0_0 a0_1 _ _ l0_2 true _ ?side1 ?side2 A2.out).mono ?_); (case side1 => exact lowA (Kd.C_below HR0_2.out HB.out)); (case side2 => exact HC0_2.out); rintro e w13 ⟨rfl, hb⟩; refine ⟨_, rfl, ?_⟩; replace BK354 := Aside0.mk (blk_below (g := gb354) (o := .cells #[.int .i64 a0_0, .int .i64 a0_1, .slice A0_2 l0_2.length c0_2] 24 (0, 0)) (blkA BK354.out) hb); replace HB := Aside0.mk (below_step (belA HB.out) hb); (try clear hb); (try clear hb2); (try clear hk); (try clear hi); obtain ⟨hcz14_0, hcz14_1, hcz14_2, hfz14_0, hfz14_1, hfz14_2⟩ := bk3 BK354.out))
     go_ret2
     exact ⟨errA, belA HB.out⟩
    ·rw [if_neg c10] at H
     have c10b0 : decide (177 < a0_0) = false := decide_eq_false c10
     clear c10
     by_cases c15 : (Int.tmod a0_0 4) = 1
     ·rw [if_pos c15] at H
      have c15b0 : ((Int.tmod a0_0 4) == 1) = true := beq_iff_eq.mpr c15
      have c15b1 : ((Int.tmod a0_0 4) != 1) = false := bne_eq_false_iff_eq.mpr c15
      clear c15
      simp only [Option.some.injEq, Prod.mk.injEq] at H
      obtain ⟨rfl, rfl⟩ := H
      go_enter Try.func35, Try.ntmps35
      go_wp2_with (first | ((with_reducible refine gate_dst (N := 1) rfl ?_); refine boxE (N := 1) (cs := #[.int .i64 a0_0, .int .i64 a0_1, .slice A0_2 l0_2.length c0_2]) (t := 24) ?_; intro gb354 hg w16 hbox hb; have BK354 := Aside0.mk (hbox); have GW354 := Aside0.mk ((szA hg HB.out : w.heap.size ≤ gb354)); have GE354 := Aside0.mk ((szA hg HB.out : w.heap.size ≤ gb354)); replace HB := Aside0.mk (below_step (belA HB.out) hb); clear hb hbox hg; obtain ⟨hcz17_0, hcz17_1, hcz17_2, hfz17_0, hfz17_1, hfz17_2⟩ := bk3 BK354.out) | ((with_reducible refine gate_callee (f := 68) rfl ?_); refine goesL_ (some 5) rfl rfl Try.func68 (by kernel_rfl) rfl #[.agg #[.int .i64 a0_0, .int .i64 a0_1, .slice A0_2 l0_2.length c0_2]] rfl argA ?_; (with_reducible refine (barscanref20_Sound.calls a0_0 a0_1 _ _ l0_2 true _ ?side1 ?side2 A2.out).mono ?_); (case side1 => exact lowA (Kd.C_below HR0_2.out HB.out)); (case side2 => exact HC0_2.out); rintro e w18 ⟨rfl, hb⟩; refine ⟨_, rfl, ?_⟩; replace BK354 := Aside0.mk (blk_below (g := gb354) (o := .cells #[.int .i64 a0_0, .int .i64 a0_1, .slice A0_2 l0_2.length c0_2] 24 (0, 0)) (blkA BK354.out) hb); replace HB := Aside0.mk (below_step (belA HB.out) hb); (try clear hb); (try clear hb2); (try clear hk); (try clear hi); obtain ⟨hcz19_0, hcz19_1, hcz19_2, hfz19_0, hfz19_1, hfz19_2⟩ := bk3 BK354.out))
      go_ret2
      exact ⟨errA, belA HB.out⟩
     ·rw [if_neg c15] at H
      have c15b0 : ((Int.tmod a0_0 4) == 1) = false := beq_eq_false_iff_ne.mpr c15
      have c15b1 : ((Int.tmod a0_0 4) != 1) = true := bne_iff_ne.mpr c15
      simp only [Option.some.injEq, Prod.mk.injEq] at H
      obtain ⟨rfl, rfl⟩ := H
      go_enter Try.func35, Try.ntmps35
      go_wp2_with (first | ((with_reducible refine gate_dst (N := 1) rfl ?_); refine boxE (N := 1) (cs := #[.int .i64 a0_0, .int .i64 a0_1, .slice A0_2 l0_2.length c0_2]) (t := 24) ?_; intro gb354 hg w20 hbox hb; have BK354 := Aside0.mk (hbox); have GW354 := Aside0.mk ((szA hg HB.out : w.heap.size ≤ gb354)); have GE354 := Aside0.mk ((szA hg HB.out : w.heap.size ≤ gb354)); replace HB := Aside0.mk (below_step (belA HB.out) hb); clear hb hbox hg; obtain ⟨hcz21_0, hcz21_1, hcz21_2, hfz21_0, hfz21_1, hfz21_2⟩ := bk3 BK354.out) | ((with_reducible refine gate_callee (f := 68) rfl ?_); refine goesL_ (some 5) rfl rfl Try.func68 (by kernel_rfl) rfl #[.agg #[.int .i64 a0_0, .int .i64 a0_1, .slice A0_2 l0_2.length c0_2]] rfl argA ?_; (with_reducible refine (barscanref20_Sound.calls a0_0 a0_1 _ _ l0_2 true _ ?side1 ?side2 A2.out).mono ?_); (case side1 => exact lowA (Kd.C_below HR0_2.out HB.out)); (case side2 => exact HC0_2.out); rintro e w22 ⟨rfl, hb⟩; refine ⟨_, rfl, ?_⟩; replace BK354 := Aside0.mk (blk_below (g := gb354) (o := .cells #[.int .i64 a0_0, .int .i64 a0_1, .slice A0_2 l0_2.length c0_2] 24 (0, 0)) (blkA BK354.out) hb); replace HB := Aside0.mk (below_step (belA HB.out) hb); (try clear hb); (try clear hb2); (try clear hk); (try clear hi); obtain ⟨hcz23_0, hcz23_1, hcz23_2, hfz23_0, hfz23_1, hfz23_2⟩ := bk3 BK354.out))
      go_ret2
      exact ⟨errA, belA HB.out⟩
  ·rw [if_neg c4] at H
   have c4b0 : (a0_0 == a0_1) = false := beq_eq_false_iff_ne.mpr c4
   have c4b1 : (a0_0 != a0_1) = true := bne_iff_ne.mpr c4
   simp only [Option.some.injEq, Prod.mk.injEq] at H
   obtain ⟨rfl, rfl⟩ := H
   go_enter Try.func35, Try.ntmps35
   go_wp2_with (first | ((with_reducible refine gate_dst (N := 1) rfl ?_); refine boxE (N := 1) (cs := #[.int .i64 a0_0, .int .i64 a0_1, .slice A0_2 l0_2.length c0_2]) (t := 24) ?_; intro gb354 hg w24 hbox hb; have BK354 := Aside0.mk (hbox); have GW354 := Aside0.mk ((szA hg HB.out : w.heap.size ≤ gb354)); have GE354 := Aside0.mk ((szA hg HB.out : w.heap.size ≤ gb354)); replace HB := Aside0.mk (below_step (belA HB.out) hb); clear hb hbox hg; obtain ⟨hcz25_0, hcz25_1, hcz25_2, hfz25_0, hfz25_1, hfz25_2⟩ := bk3 BK354.out) | ((with_reducible refine gate_callee (f := 68) rfl ?_); refine goesL_ (some 5) rfl rfl Try.func68 (by kernel_rfl) rfl #[.agg #[.int .i64 a0_0, .int .i64 a0_1, .slice A0_2 l0_2.length c0_2]] rfl argA ?_; (with_reducible refine (barscanref20_Sound.calls a0_0 a0_1 _ _ l0_2 true _ ?side1 ?side2 A2.out).mono ?_); (case side1 => exact lowA (Kd.C_below HR0_2.out HB.out)); (case side2 => exact HC0_2.out); rintro e w26 ⟨rfl, hb⟩; refine ⟨_, rfl, ?_⟩; replace BK354 := Aside0.mk (blk_below (g := gb354) (o := .cells #[.int .i64 a0_0, .int .i64 a0_1, .slice A0_2 l0_2.length c0_2] 24 (0, 0)) (blkA BK354.out) hb); replace HB := Aside0.mk (below_step (belA HB.out) hb); (try clear hb); (try clear hb2); (try clear hk); (try clear hi); obtain ⟨hcz27_0, hcz27_1, hcz27_2, hfz27_0, hfz27_1, hfz27_2⟩ := bk3 BK354.out))
   go_ret2
   exact ⟨errA, belA HB.out⟩
 ·replace c3 := Bool.eq_false_iff.mpr c3
  subst c3
  have H1 : (some (0, 1)) = some (r1, r2) := by rw [if_neg (show ¬ (false = true) by decide)] at H; exact H
  clear H
  have H := H1
  clear H1
  simp only [Option.some.injEq, Prod.mk.injEq] at H
  obtain ⟨rfl, rfl⟩ := H
  go_enter Try.func35, Try.ntmps35
  go_wp2_with (first | ((with_reducible refine gate_dst (N := 1) rfl ?_); refine boxE (N := 1) (cs := #[.int .i64 a0_0, .int .i64 a0_1, .slice A0_2 l0_2.length c0_2]) (t := 24) ?_; intro gb354 hg w28 hbox hb; have BK354 := Aside0.mk (hbox); have GW354 := Aside0.mk ((szA hg HB.out : w.heap.size ≤ gb354)); have GE354 := Aside0.mk ((szA hg HB.out : w.heap.size ≤ gb354)); replace HB := Aside0.mk (below_step (belA HB.out) hb); clear hb hbox hg; obtain ⟨hcz29_0, hcz29_1, hcz29_2, hfz29_0, hfz29_1, hfz29_2⟩ := bk3 BK354.out) | ((with_reducible refine gate_callee (f := 68) rfl ?_); refine goesL_ (some 5) rfl rfl Try.func68 (by kernel_rfl) rfl #[.agg #[.int .i64 a0_0, .int .i64 a0_1, .slice A0_2 l0_2.length c0_2]] rfl argA ?_; (with_reducible refine (barscanref20_Sound.calls a0_0 a0_1 _ _ l0_2 false _ ?side1 ?side2 A2.out).mono ?_); (case side1 => exact lowA (Kd.C_below HR0_2.out HB.out)); (case side2 => exact HC0_2.out); rintro e w30 ⟨rfl, hb⟩; refine ⟨_, rfl, ?_⟩; replace BK354 := Aside0.mk (blk_below (g := gb354) (o := .cells #[.int .i64 a0_0, .int .i64 a0_1, .slice A0_2 l0_2.length c0_2] 24 (0, 0)) (blkA BK354.out) hb); replace HB := Aside0.mk (below_step (belA HB.out) hb); (try clear hb); (try clear hb2); (try clear hk); (try clear hi)))
  go_ret2
  exact ⟨errA, belA HB.out⟩

def barscanref20_Copy.f (a0_0 : Int) (a0_1 : Int) (l0_2 : List Bool) : Option (Int × Int × List Bool) := if ([] : List Bool).length + l0_2.length < 140737488355328 then (some (a0_0, a0_1, (([] : List Bool) ++ l0_2))) else (none)
def barscanref08_power.l0 : Nat → Int → Int → Int → Option (Int)
 | 0, _, _, _ => none
 | k + 1, x0, x3, x4 => if x4 < x0 then (barscanref08_power.l0 k x0 (wrap64 (2 * x3)) (wrap64 (x4 + 1))) else (some x3)
def barscanref08_power.f (k : Nat) (a0 : Int) : Option (Int) := barscanref08_power.l0 k a0 1 0
def barscanref08_degree.l0 : Nat → Int → Int → Option (Int)
 | 0, _, _ => none
 | k + 1, x0, x3 => if x0 > 1 then (barscanref08_degree.l0 k (wrap64 (Int.tdiv x0 2)) (wrap64 (x3 + 1))) else (some x3)
def barscanref08_degree.f (k : Nat) (a0 : Int) : Option (Int) := barscanref08_degree.l0 k a0 0
def barscanref08_remainder.l0 : Nat → Int → Int → Int → Int → Option (Int)
 | 0, _, _, _, _ => none
 | k + 1, x0, x1, x5, x6 => if x6 ≥ x5 then ((barscanref08_power.f k x6).bind fun t362 => (if t362 = 0 then (none) else (if (Int.tmod (wrap64 (Int.tdiv x0 t362)) 2) = 1 then ((barscanref08_power.f k (wrap64 (x6 - x5))).bind fun t363 => (barscanref08_remainder.l0 k (Go.bits .xor .i64 x0 (wrap64 (x1 * t363))) x1 x5 (wrap64 (x6 - 1)))) else (barscanref08_remainder.l0 k x0 x1 x5 (wrap64 (x6 - 1)))))) else (some x0)
def barscanref08_remainder.f (k : Nat) (a0 : Int) (a1 : Int) : Option (Int) := (barscanref08_degree.f k a1).bind fun t361 => (barscanref08_remainder.l0 k a0 a1 t361 30)
end Go.Proofs.Ytbbnagjfjgkgjaa.L
