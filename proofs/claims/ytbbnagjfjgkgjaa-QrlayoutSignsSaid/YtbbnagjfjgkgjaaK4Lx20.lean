-- Written by a program of this session out of the kit's print of the loaded functions (see wip/).
import Derived.Test.YtbbnagjfjgkgjaaK4Lx0
import Derived.Test.YtbbnagjfjgkgjaaK4Lx16
import Derived.Test.YtbbnagjfjgkgjaaK4Lx17
import Derived.Test.YtbbnagjfjgkgjaaK4Lx19
namespace Go.Proofs.Ytbbnagjfjgkgjaa.L
open Go.RowKit Go.Proofs.YtbbnagjfjgkgjaaW.PrintWords Go.Proofs.YtbbnagjfjgkgjaaW.PrintLast Go.Proofs.YtbbnagjfjgkgjaaW.PrintMore
attribute [local go_sem] max2_int min2_int max_two min_two max_three min_three max_four min_four   -- for this text's walks alone
set_option linter.unusedVariables false
set_option linter.unusedSimpArgs false

mutual
def barscanref08_ParseFormat.j0 : Nat → Int → Bool → Option (Int × Int × Int × Int)
 | 0, _, _ => none
 | k + 1, x0, x16 => if x16 = true then (some (0, 0, 0, 3)) else (barscanref08_ParseFormat.l0 k x0 1)
def barscanref08_ParseFormat.l0 : Nat → Int → Int → Option (Int × Int × Int × Int)
 | 0, _, _ => none
 | k + 1, x0, x6 => if x6 ≤ 4 then (barscanref08_ParseFormat.l1 k x0 x6 0) else (some (0, 0, 0, 21))
def barscanref08_ParseFormat.l1 : Nat → Int → Int → Int → Option (Int × Int × Int × Int)
 | 0, _, _, _ => none
 | k + 1, x0, x6, x7 => if x7 < 8 then ((barscanref08_Format.f k x6 x7).bind fun bt413 => ((barscanref08_Weight.f k (Go.bits .xor .i64 bt413.1 x0)).bind fun t415 => (if t415 ≤ 3 then (some (x6, x7, t415, 0)) else (barscanref08_ParseFormat.l1 k x0 x6 (wrap64 (x7 + 1)))))) else (barscanref08_ParseFormat.l0 k x0 (wrap64 (x6 + 1)))
end
def barscanref08_ParseFormat.f (k : Nat) (a0 : Int) : Option (Int × Int × Int × Int) := if a0 < 0 then (barscanref08_ParseFormat.j0 k a0 true) else (barscanref08_ParseFormat.j0 k a0 (decide (a0 ≥ 32768)))
set_option maxHeartbeats 8000000 in
set_option maxRecDepth 100000 in
theorem barscanref08_ParseFormat.calls (k : Nat) (a0 : Int) (r1 : Int) (r2 : Int) (r3 : Int) (r4 : Int) (w : World) (h : barscanref08_ParseFormat.f k a0 = some (r1, r2, r3, r4)) :
  Calls Try.prog 57 #[.int .i64 a0] w fun e w' => e = .returned (.tuple #[.int .i64 r1, .int .i64 r2, .int .i64 r3, .int .i64 r4]) ∧ Drawn0 w w' := by
 have H : (if a0 < 0 then (barscanref08_ParseFormat.j0 k a0 true) else (barscanref08_ParseFormat.j0 k a0 (decide (a0 ≥ 32768)))) = some (r1, r2, r3, r4) := h
 clear h
 have HC2 := Aside0.mk H
 clear H
 go_enter Try.func57, Try.ntmps57
 go_upto_region 1 with (fail)
 go_cut [16] (fun v16 wc => ∃ (kq : Nat) (x16_1 : Bool), v16 = .bool x16_1 ∧ Aside0 (barscanref08_ParseFormat.j0 kq a0 x16_1 = some (r1, r2, r3, r4)) ∧ Aside0 (kq ≤ k) ∧ Drawn0 w wc)
 case first =>
  have H := HC2.out
  clear HC2
  by_cases c3 : a0 < 0
  ·rw [if_pos c3] at H
   have c3b0 : decide (a0 < 0) = true := decide_eq_true c3
   clear c3
   (first | rw [c3b0] | (simp only [i64_w, i32_w]; rw [c3b0]) | skip)
   have H' := Aside0.mk H
   clear H
   go_wp2
   go_meet
   case rel => exact ⟨_, (true), (by first | rfl | (simp; done) | (simp [*]; done)), H', ⟨by first | omega | exact Nat.le_refl _⟩, by repeat (first | exact Drawn0.refl _ | apply Drawn0.step)⟩
  ·rw [if_neg c3] at H
   have c3b0 : decide (a0 < 0) = false := decide_eq_false c3
   clear c3
   (first | rw [c3b0] | (simp only [i64_w, i32_w]; rw [c3b0]) | skip)
   have H' := Aside0.mk H
   clear H
   go_wp2
   go_meet
   case rel => exact ⟨_, (decide (a0 ≥ 32768)), (by first | rfl | (simp; done) | (simp [*]; done)), H', ⟨by first | omega | exact Nat.le_refl _⟩, by repeat (first | exact Drawn0.refl _ | apply Drawn0.step)⟩
 case rest =>
  clear HC2
  try clear p2
  try clear c3
  try clear c3b0
  obtain ⟨kq, x16_1, rfl, HA, HJ1, ⟨mc1, rfl⟩⟩ := hcut
  cases kq with
  | zero => exact absurd HA.out (by simp [barscanref08_ParseFormat.j0])
  | succ kj1 =>
   have H := HA.out
   clear HA
   simp only [barscanref08_ParseFormat.j0] at H
   by_cases c4 : x16_1 = true
   ·subst c4
    have H1 : (some (0, 0, 0, 3)) = some (r1, r2, r3, r4) := by rw [if_pos rfl] at H; exact H
    clear H
    have H := H1
    clear H1
    simp only [Option.some.injEq, Prod.mk.injEq] at H
    obtain ⟨rfl, rfl, rfl, rfl⟩ := H
    go_wp2
    refine bodyPost_ret (results_list (rs := [.tmp 2, .tmp 3, .tmp 4, .tmp 5]) rfl (by simp) (.tmp (.tmp (.tmp (.tmp .nil))))) rfl ?_
    exact ⟨by first | rfl | (simp; done) | (simp [*]; done), by repeat (first | exact Drawn0.refl _ | apply Drawn0.step)⟩
   ·replace c4 := Bool.eq_false_iff.mpr c4
    subst c4
    have H1 : (barscanref08_ParseFormat.l0 kj1 a0 1) = some (r1, r2, r3, r4) := by rw [if_neg (show ¬ (false = true) by decide)] at H; exact H
    clear H
    have H := H1
    clear H1
    have H' := Aside0.mk H
    clear H
    go_wp2
    go_loopg [6] kj1 (fun kq v6 w' => ∃ (x6_2 : Int), v6 = .int .i64 x6_2 ∧ Aside0 (barscanref08_ParseFormat.l0 kq a0 x6_2 = some (r1, r2, r3, r4)) ∧ Aside0 (kq ≤ kj1) ∧ Drawn0 w w')
    case atStart => exact ⟨(1), (by first | rfl | (simp; done) | (simp [*]; done)), H', ⟨Nat.le_refl _⟩, by repeat (first | exact Drawn0.refl _ | apply Drawn0.step)⟩
    case round =>
     clear H'
     try clear c1
     try clear p2
     try clear c3
     try clear c3b0
     try clear c4
     try clear p2
     obtain ⟨x6_2, rfl, HA, HK2, ⟨m2, rfl⟩⟩ := hrel
     cases gk with
     | zero => exact absurd HA.out (by simp [barscanref08_ParseFormat.l0])
     | succ k2 =>
      have H := HA.out
      clear HA
      simp only [barscanref08_ParseFormat.l0] at H
      by_cases c5 : x6_2 ≤ 4
      ·rw [if_pos c5] at H
       have c5b0 : decide (x6_2 ≤ 4) = true := decide_eq_true c5
       clear c5
       have H' := Aside0.mk H
       clear H
       go_wp2
       go_loopg [7] k2 (fun kq v7 w' => ∃ (x7_3 : Int), v7 = .int .i64 x7_3 ∧ Aside0 (barscanref08_ParseFormat.l1 kq a0 x6_2 x7_3 = some (r1, r2, r3, r4)) ∧ Aside0 (kq ≤ k2) ∧ Drawn0 w w')
       case atStart => exact ⟨(0), (by first | rfl | (simp; done) | (simp [*]; done)), H', ⟨Nat.le_refl _⟩, by repeat (first | exact Drawn0.refl _ | apply Drawn0.step)⟩
       case round =>
        clear H'
        try clear c1
        try clear p2
        try clear c3
        try clear c3b0
        try clear c4
        try clear c5
        try clear c5b0
        try clear p2
        obtain ⟨x7_3, rfl, HA, HK3, ⟨m3, rfl⟩⟩ := hrel
        cases gk with
        | zero => exact absurd HA.out (by simp [barscanref08_ParseFormat.l1])
        | succ k3 =>
         have H := HA.out
         clear HA
         simp only [barscanref08_ParseFormat.l1] at H
         by_cases c6 : x7_3 < 8
         ·rw [if_pos c6] at H
          have c6b0 : decide (x7_3 < 8) = true := decide_eq_true c6
          clear c6
          replace H := Option.bind_eq_some_iff.mp H
          obtain ⟨⟨t413, t414⟩, A70, H⟩ := H
          replace H : ((barscanref08_Weight.f k3 (Go.bits .xor .i64 t413 a0)).bind fun t415 => (if t415 ≤ 3 then (some (x6_2, x7_3, t415, 0)) else (barscanref08_ParseFormat.l1 k3 a0 x6_2 (wrap64 (x7_3 + 1))))) = some (r1, r2, r3, r4) := H
          have A7 := Aside0.mk A70
          clear A70
          replace H := Option.bind_eq_some_iff.mp H
          obtain ⟨t415, A80, H⟩ := H
          replace H : (if t415 ≤ 3 then (some (x6_2, x7_3, t415, 0)) else (barscanref08_ParseFormat.l1 k3 a0 x6_2 (wrap64 (x7_3 + 1)))) = some (r1, r2, r3, r4) := H
          have A8 := Aside0.mk A80
          clear A80
          by_cases c9 : t415 ≤ 3
          ·rw [if_pos c9] at H
           have c9b0 : decide (t415 ≤ 3) = true := decide_eq_true c9
           clear c9
           simp only [Option.some.injEq, Prod.mk.injEq] at H
           obtain ⟨rfl, rfl, rfl, rfl⟩ := H
           go_wp2_with (first | ((with_reducible refine gate_callee (f := 51) rfl ?_); refine goesL_ (some 28) rfl rfl Try.func51 (by kernel_rfl) rfl #[.int .i64 x6_2, .int .i64 x7_3] rfl (by (try simp only [List.map_toArray, List.map_cons, List.map_nil]); first | done | rfl | (simp only [List.length_drop, List.length_take]; rfl)) ?_; (with_reducible refine (barscanref08_Format.calls k3 x6_2 x7_3 t413 t414 _ A7.out).mono ?_); rintro e w' ⟨rfl, ⟨nd, rfl⟩⟩; refine ⟨_, rfl, ?_⟩) | ((with_reducible refine gate_callee (f := 82) rfl ?_); refine goesL_ (some 34) rfl rfl Try.func82 (by kernel_rfl) rfl #[.int .i64 (Go.bits .xor .i64 t413 a0)] rfl (by (try simp only [List.map_toArray, List.map_cons, List.map_nil]); first | done | rfl | (simp only [List.length_drop, List.length_take]; rfl)) ?_; (with_reducible refine (barscanref08_Weight.calls k3 (Go.bits .xor .i64 t413 a0) t415 _ A8.out).mono ?_); rintro e w' ⟨rfl, ⟨nd, rfl⟩⟩; refine ⟨_, rfl, ?_⟩))
           refine bodyPost_ret (results_list (rs := [.tmp 2, .tmp 3, .tmp 4, .tmp 5]) rfl (by simp) (.tmp (.tmp (.tmp (.tmp .nil))))) rfl ?_
           exact ⟨by first | rfl | (simp; done) | (simp [*]; done), by repeat (first | exact Drawn0.refl _ | apply Drawn0.step)⟩
          ·rw [if_neg c9] at H
           have c9b0 : decide (t415 ≤ 3) = false := decide_eq_false c9
           clear c9
           have H' := Aside0.mk H
           clear H
           go_wp2_with (first | ((with_reducible refine gate_callee (f := 51) rfl ?_); refine goesL_ (some 28) rfl rfl Try.func51 (by kernel_rfl) rfl #[.int .i64 x6_2, .int .i64 x7_3] rfl (by (try simp only [List.map_toArray, List.map_cons, List.map_nil]); first | done | rfl | (simp only [List.length_drop, List.length_take]; rfl)) ?_; (with_reducible refine (barscanref08_Format.calls k3 x6_2 x7_3 t413 t414 _ A7.out).mono ?_); rintro e w' ⟨rfl, ⟨nd, rfl⟩⟩; refine ⟨_, rfl, ?_⟩) | ((with_reducible refine gate_callee (f := 82) rfl ?_); refine goesL_ (some 34) rfl rfl Try.func82 (by kernel_rfl) rfl #[.int .i64 (Go.bits .xor .i64 t413 a0)] rfl (by (try simp only [List.map_toArray, List.map_cons, List.map_nil]); first | done | rfl | (simp only [List.length_drop, List.length_take]; rfl)) ?_; (with_reducible refine (barscanref08_Weight.calls k3 (Go.bits .xor .i64 t413 a0) t415 _ A8.out).mono ?_); rintro e w' ⟨rfl, ⟨nd, rfl⟩⟩; refine ⟨_, rfl, ?_⟩))
           go_roundg k3
           case measure => have := HJ1.out; have := HK2.out; have := HK3.out; omega
           case rel => exact ⟨(wrap64 (x7_3 + 1)), (by first | rfl | (simp; done) | (simp [*]; done)), H', ⟨by have := HJ1.out; have := HK2.out; have := HK3.out; omega⟩, by repeat (first | exact Drawn0.refl _ | apply Drawn0.step)⟩
         ·rw [if_neg c6] at H
          have c6b0 : decide (x7_3 < 8) = false := decide_eq_false c6
          clear c6
          have H' := Aside0.mk H
          clear H
          go_wp2
          go_roundg k3
          case measure => have := HJ1.out; have := HK2.out; have := HK3.out; omega
          case rel => exact ⟨(wrap64 (x6_2 + 1)), (by first | rfl | (simp; done) | (simp [*]; done)), H', ⟨by have := HJ1.out; have := HK2.out; have := HK3.out; omega⟩, by repeat (first | exact Drawn0.refl _ | apply Drawn0.step)⟩
      ·rw [if_neg c5] at H
       have c5b0 : decide (x6_2 ≤ 4) = false := decide_eq_false c5
       clear c5
       simp only [Option.some.injEq, Prod.mk.injEq] at H
       obtain ⟨rfl, rfl, rfl, rfl⟩ := H
       go_wp2
       refine bodyPost_ret (results_list (rs := [.tmp 2, .tmp 3, .tmp 4, .tmp 5]) rfl (by simp) (.tmp (.tmp (.tmp (.tmp .nil))))) rfl ?_
       exact ⟨by first | rfl | (simp; done) | (simp [*]; done), by repeat (first | exact Drawn0.refl _ | apply Drawn0.step)⟩

mutual
def barscanref20_Read.j0 : Nat → Int → Int → Bool → Int → Int → List Bool → Option (Int × Int × Int × Int)
 | 0, _, _, _, _, _, _ => none
 | k + 1, x6, x7, x26, x417000, x417001, x417002 => if x26 = true then ((barscanref20_agrees.f k x417000 x417001 x417002 x6).bind fun t419 => (barscanref20_Read.j1 k x6 t419 x417000 x417001 x417002)) else (barscanref20_Read.j1 k x6 x7 x417000 x417001 x417002)
def barscanref20_Read.j1 : Nat → Int → Int → Int → Int → List Bool → Option (Int × Int × Int × Int)
 | 0, _, _, _, _, _ => none
 | k + 1, x6, x7, x417000, x417001, x417002 => if x7 = 0 then ((barscanref20_information.f k x417000 x417001 x417002 0 15).bind fun t420 => ((barscanref08_ParseFormat.f k t420).bind fun bt421 => ((barscanref20_information.f k x417000 x417001 x417002 1 15).bind fun t425 => ((barscanref08_ParseFormat.f k t425).bind fun bt426 => (if bt421.2.2.2 = 0 then (barscanref20_Read.j2 k x6 bt421.1 bt421.2.1 bt421.2.2.1 bt421.2.2.2 bt426.1 bt426.2.1 bt426.2.2.1 bt426.2.2.2 false) else (barscanref20_Read.j2 k x6 bt421.1 bt421.2.1 bt421.2.2.1 bt421.2.2.2 bt426.1 bt426.2.1 bt426.2.2.1 bt426.2.2.2 (bt426.2.2.2 != 0))))))) else (some (0, 0, 0, x7))
def barscanref20_Read.j2 : Nat → Int → Int → Int → Int → Int → Int → Int → Int → Int → Bool → Option (Int × Int × Int × Int)
 | 0, _, _, _, _, _, _, _, _, _, _ => none
 | k + 1, x6, x8, x9, x10, x11, x12, x13, x14, x15, x54 => if x54 = true then (some (0, 0, 0, 21)) else (if x11 = 0 then (if x15 = 0 then (if x14 < x10 then (some (x6, x12, x13, 0)) else (some (x6, x8, x9, 0))) else (some (x6, x8, x9, 0))) else (some (x6, x12, x13, 0)))
end
def barscanref20_Read.f (k : Nat) (a0_0 : Int) (a0_1 : Int) (l0_2 : List Bool) : Option (Int × Int × Int × Int) := (barscanref20_Version.f a0_0 a0_1 l0_2).bind fun bt417 => (if bt417.2 = 0 then (barscanref20_Read.j0 k bt417.1 bt417.2 (decide (bt417.1 ≥ 7)) a0_0 a0_1 l0_2) else (barscanref20_Read.j0 k bt417.1 bt417.2 false a0_0 a0_1 l0_2))
set_option maxHeartbeats 8000000 in
set_option maxRecDepth 100000 in
theorem barscanref20_Read.calls (k : Nat) (a0_0 : Int) (a0_1 : Int) (A0_2 : Option Addr) (c0_2 : Nat) (l0_2 : List Bool) (r1 : Int) (r2 : Int) (r3 : Int) (r4 : Int) (w : World) (hr0_2 : Kd.C Kd.bool w A0_2 l0_2.length l0_2) (hc0_2 : l0_2.length ≤ c0_2) (h : barscanref20_Read.f k a0_0 a0_1 l0_2 = some (r1, r2, r3, r4)) :
  Calls Try.prog 20 #[.agg #[.int .i64 a0_0, .int .i64 a0_1, .slice A0_2 l0_2.length c0_2]] w fun e w' => e = .returned (.tuple #[.int .i64 r1, .int .i64 r2, .int .i64 r3, .int .i64 r4]) ∧ Below w.heap.size w w' := by
 have hu24 := Try.underlying24
 have HR0_2 := Aside0.mk hr0_2
 have HC0_2 := Aside0.mk hc0_2
 clear hr0_2 hc0_2
 have HB := Aside0.mk (Below.refl w.heap.size w)
 have H : ((barscanref20_Version.f a0_0 a0_1 l0_2).bind fun bt417 => (if bt417.2 = 0 then (barscanref20_Read.j0 k bt417.1 bt417.2 (decide (bt417.1 ≥ 7)) a0_0 a0_1 l0_2) else (barscanref20_Read.j0 k bt417.1 bt417.2 false a0_0 a0_1 l0_2))) = some (r1, r2, r3, r4) := h
 clear h
 replace H := Option.bind_eq_some_iff.mp H
 obtain ⟨⟨t417, t418⟩, A20, H⟩ := H
 replace H : (if t418 = 0 then (barscanref20_Read.j0 k t417 t418 (decide (t417 ≥ 7)) a0_0 a0_1 l0_2) else (barscanref20_Read.j0 k t417 t418 false a0_0 a0_1 l0_2)) = some (r1, r2, r3, r4) := H
 have A2 := Aside0.mk A20
 clear A20
 have HC3 := Aside0.mk H
 clear H
 go_enter Try.func20, Try.ntmps20
 go_upto_region 2 with (first | ((with_reducible refine gate_dst (N := 1) rfl ?_); refine box_event ?hg (N := 1) ?hd (cs := #[.int .i64 a0_0, .int .i64 a0_1, .slice A0_2 l0_2.length c0_2]) (t := 24) ?hr ?_; (case hd => rfl); (case hg => rfl); (case hr => first | (go_simp; done) | (go_simp; rfl)); intro gb416 hg w4 hbox hb; have n0_ := Aside0.mk (below_step (belA HB.out) hb); have n1_ := Aside0.mk (hbox); have n2_ := Aside0.mk ((by rw [hg]; exact (below_size (belA HB.out)) : w.heap.size ≤ gb416)); have n3_ := Aside0.mk ((by rw [hg]; exact (below_size (belA HB.out)) : w.heap.size ≤ gb416)); clear HB; have HB := n0_; have BK416 := n1_; have GW416 := n2_; have GE416 := n3_; clear n0_ n1_ n2_ n3_; clear hb hbox hg; have hcz5_0 : w4.cell? ⟨gb416, 0, none⟩ = some (.int .i64 a0_0) := (blk_cell BK416.out 0).trans rfl; have hcz5_1 : w4.cell? ⟨gb416, 1, none⟩ = some (.int .i64 a0_1) := (blk_cell BK416.out 1).trans rfl; have hcz5_2 : w4.cell? ⟨gb416, 2, none⟩ = some (.slice A0_2 l0_2.length c0_2) := (blk_cell BK416.out 2).trans rfl; have hfz5_0 := blk_frozen BK416.out 0; have hfz5_1 := blk_frozen BK416.out 1; have hfz5_2 := blk_frozen BK416.out 2) | ((with_reducible refine gate_callee (f := 35) rfl ?_); refine goesL_ (some 18) rfl rfl Try.func35 (by kernel_rfl) rfl #[.agg #[.int .i64 a0_0, .int .i64 a0_1, .slice A0_2 l0_2.length c0_2]] rfl (by (try simp only [List.map_toArray, List.map_cons, List.map_nil]); first | done | rfl | (simp only [List.length_drop, List.length_take]; rfl)) ?_; (with_reducible refine (barscanref20_Version.calls a0_0 a0_1 _ _ l0_2 t417 t418 _ ?side1 ?side2 A2.out).mono ?_); (case side1 => repeat (first | exact (Kd.C_below HR0_2.out HB.out) | (with_reducible refine Kd.C_alloc ?_ _) | (with_reducible refine Kd.C_drewN ?_ _) | (with_reducible refine Kd.C_drew ?_))); (case side2 => exact HC0_2.out); rintro e w6 ⟨rfl, hb⟩; refine ⟨_, rfl, ?_⟩; have n0_ := Aside0.mk (blk_below (g := gb416) (o := .cells #[.int .i64 a0_0, .int .i64 a0_1, .slice A0_2 l0_2.length c0_2] 24 (0, 0)) (blkA BK416.out) hb); have n1_ := Aside0.mk (below_step (belA HB.out) hb); clear BK416; clear HB; have BK416 := n0_; have HB := n1_; clear n0_ n1_; (try clear hb); (try clear hb2); (try clear hk); (try clear hi)))
 (try simp only [Act.put, List.setIfInBounds_toArray, List.set_cons_zero, List.set_cons_succ])
 go_cut [26] (fun v26 wc => ∃ (kq : Nat) (x26_2 : Bool), v26 = .bool x26_2 ∧ Aside0 (barscanref20_Read.j0 kq t417 t418 x26_2 a0_0 a0_1 l0_2 = some (r1, r2, r3, r4)) ∧ Aside0 (kq ≤ k) ∧ Aside0 (wc.heap[gb416]? = some (.cells #[.int .i64 a0_0, .int .i64 a0_1, (.slice A0_2 l0_2.length c0_2)] 24 (0, 0))) ∧ Aside0 (Below w.heap.size w wc))
 case first =>
  have H := HC3.out
  clear HC3
  by_cases c7 : t418 = 0
  ·rw [if_pos c7] at H
   have c7b0 : (t418 == 0) = true := beq_iff_eq.mpr c7
   have c7b1 : (t418 != 0) = false := bne_eq_false_iff_eq.mpr c7
   clear c7
   (first | rw [c7b0] | (simp only [i64_w, i32_w]; rw [c7b0]) | skip)
   have H' := Aside0.mk H
   clear H
   go_wp2
   go_meet
   case rel => exact ⟨_, (decide (t417 ≥ 7)), (by first | rfl | (simp; done) | (simp [*]; done)), H', ⟨by first | omega | exact Nat.le_refl _⟩, ⟨blkA BK416.out⟩, ⟨belA HB.out⟩⟩
  ·rw [if_neg c7] at H
   have c7b0 : (t418 == 0) = false := beq_eq_false_iff_ne.mpr c7
   have c7b1 : (t418 != 0) = true := bne_iff_ne.mpr c7
   (first | rw [c7b0] | (simp only [i64_w, i32_w]; rw [c7b0]) | skip)
   have H' := Aside0.mk H
   clear H
   go_wp2
   go_meet
   case rel => exact ⟨_, (false), (by first | rfl | (simp; done) | (simp [*]; done)), H', ⟨by first | omega | exact Nat.le_refl _⟩, ⟨blkA BK416.out⟩, ⟨belA HB.out⟩⟩
 case rest =>
  clear HC3
  try clear c2
  try clear p2
  try clear c3
  try clear c7
  try clear c7b0
  try clear c7b1
  try clear hcz5_0
  try clear hcz5_1
  try clear hcz5_2
  try clear hfz5_0
  try clear hfz5_1
  try clear hfz5_2
  obtain ⟨kq, x26_2, rfl, HA, HJ2, BK416, HB⟩ := hcut
  cases kq with
  | zero => exact absurd HA.out (by simp [barscanref20_Read.j0])
  | succ kj2 =>
   have H := HA.out
   clear HA
   simp only [barscanref20_Read.j0] at H
   have HC8 := Aside0.mk H
   clear H
   go_upto_if 26 with (fail)
   go_cut [7] (fun v7 wc => ∃ (kq : Nat) (x7_7 : Int), v7 = .int .i64 x7_7 ∧ Aside0 (barscanref20_Read.j1 kq t417 x7_7 a0_0 a0_1 l0_2 = some (r1, r2, r3, r4)) ∧ Aside0 (kq ≤ kj2) ∧ Aside0 (wc.heap[gb416]? = some (.cells #[.int .i64 a0_0, .int .i64 a0_1, (.slice A0_2 l0_2.length c0_2)] 24 (0, 0))) ∧ Aside0 (Below w.heap.size w wc))
   case first =>
    have H := HC8.out
    clear HC8
    by_cases c9 : x26_2 = true
    ·subst c9
     have H1 : ((barscanref20_agrees.f kj2 a0_0 a0_1 l0_2 t417).bind fun t419 => (barscanref20_Read.j1 kj2 t417 t419 a0_0 a0_1 l0_2)) = some (r1, r2, r3, r4) := by rw [if_pos rfl] at H; exact H
     clear H
     have H := H1
     clear H1
     replace H := Option.bind_eq_some_iff.mp H
     obtain ⟨t419, A100, H⟩ := H
     replace H : (barscanref20_Read.j1 kj2 t417 t419 a0_0 a0_1 l0_2) = some (r1, r2, r3, r4) := H
     have A10 := Aside0.mk A100
     clear A100
     have H' := Aside0.mk H
     clear H
     have hcz11_0 : wc.cell? ⟨gb416, 0, none⟩ = some (.int .i64 a0_0) := (blk_cell BK416.out 0).trans rfl
     have hcz11_1 : wc.cell? ⟨gb416, 1, none⟩ = some (.int .i64 a0_1) := (blk_cell BK416.out 1).trans rfl
     have hcz11_2 : wc.cell? ⟨gb416, 2, none⟩ = some (.slice A0_2 l0_2.length c0_2) := (blk_cell BK416.out 2).trans rfl
     have hfz11_0 := blk_frozen BK416.out 0
     have hfz11_1 := blk_frozen BK416.out 1
     have hfz11_2 := blk_frozen BK416.out 2
     go_wp2_with (first | ((with_reducible refine gate_callee (f := 56) rfl ?_); refine goesL_ (some 29) rfl rfl Try.func56 (by kernel_rfl) rfl #[.agg #[.int .i64 a0_0, .int .i64 a0_1, .slice A0_2 l0_2.length c0_2], .int .i64 t417] rfl (by (try simp only [List.map_toArray, List.map_cons, List.map_nil]); first | done | rfl | (simp only [List.length_drop, List.length_take]; rfl)) ?_; (with_reducible refine (barscanref20_agrees.calls kj2 a0_0 a0_1 _ _ l0_2 t417 t419 _ ?side1 ?side2 A10.out).mono ?_); (case side1 => repeat (first | exact (Kd.C_below HR0_2.out HB.out) | (with_reducible refine Kd.C_alloc ?_ _) | (with_reducible refine Kd.C_drewN ?_ _) | (with_reducible refine Kd.C_drew ?_))); (case side2 => exact HC0_2.out); rintro e w12 ⟨rfl, hb⟩; refine ⟨_, rfl, ?_⟩; have n0_ := Aside0.mk (blk_below (g := gb416) (o := .cells #[.int .i64 a0_0, .int .i64 a0_1, .slice A0_2 l0_2.length c0_2] 24 (0, 0)) (blkA BK416.out) hb); have n1_ := Aside0.mk (below_step (belA HB.out) hb); clear BK416; clear HB; have BK416 := n0_; have HB := n1_; clear n0_ n1_; (try clear hb); (try clear hb2); (try clear hk); (try clear hi)))
     go_meet
     case rel => exact ⟨_, (t419), (by first | rfl | (simp; done) | (simp [*]; done)), H', ⟨by have := HJ2.out; first | omega | exact Nat.le_refl _⟩, ⟨blkA BK416.out⟩, ⟨belA HB.out⟩⟩
    ·replace c9 := Bool.eq_false_iff.mpr c9
     subst c9
     have H1 : (barscanref20_Read.j1 kj2 t417 t418 a0_0 a0_1 l0_2) = some (r1, r2, r3, r4) := by rw [if_neg (show ¬ (false = true) by decide)] at H; exact H
     clear H
     have H := H1
     clear H1
     have H' := Aside0.mk H
     clear H
     go_wp2
     go_meet
     case rel => exact ⟨_, (t418), (by first | rfl | (simp; done) | (simp [*]; done)), H', ⟨by have := HJ2.out; first | omega | exact Nat.le_refl _⟩, ⟨blkA BK416.out⟩, ⟨belA HB.out⟩⟩
   case rest =>
    clear HC8
    try clear c2
    try clear p2
    try clear c3
    try clear c5
    try clear c7
    try clear c7b0
    try clear c7b1
    try clear c9
    try clear hcz11_0
    try clear hcz11_1
    try clear hcz11_2
    try clear hcz5_0
    try clear hcz5_1
    try clear hcz5_2
    try clear hfz11_0
    try clear hfz11_1
    try clear hfz11_2
    try clear hfz5_0
    try clear hfz5_1
    try clear hfz5_2
    try clear p2
    obtain ⟨kq, x7_7, rfl, HA, HJ7, BK416, HB⟩ := hcut
    cases kq with
    | zero => exact absurd HA.out (by simp [barscanref20_Read.j1])
    | succ kj7 =>
     have H := HA.out
     clear HA
     simp only [barscanref20_Read.j1] at H
     by_cases c13 : x7_7 = 0
     ·rw [if_pos c13] at H
      have c13b0 : (x7_7 == 0) = true := beq_iff_eq.mpr c13
      have c13b1 : (x7_7 != 0) = false := bne_eq_false_iff_eq.mpr c13
      clear c13
      replace H := Option.bind_eq_some_iff.mp H
      obtain ⟨t420, A140, H⟩ := H
      replace H : ((barscanref08_ParseFormat.f kj7 t420).bind fun bt421 => ((barscanref20_information.f kj7 a0_0 a0_1 l0_2 1 15).bind fun t425 => ((barscanref08_ParseFormat.f kj7 t425).bind fun bt426 => (if bt421.2.2.2 = 0 then (barscanref20_Read.j2 kj7 t417 bt421.1 bt421.2.1 bt421.2.2.1 bt421.2.2.2 bt426.1 bt426.2.1 bt426.2.2.1 bt426.2.2.2 false) else (barscanref20_Read.j2 kj7 t417 bt421.1 bt421.2.1 bt421.2.2.1 bt421.2.2.2 bt426.1 bt426.2.1 bt426.2.2.1 bt426.2.2.2 (bt426.2.2.2 != 0)))))) = some (r1, r2, r3, r4) := H
      have A14 := Aside0.mk A140
      clear A140
      replace H := Option.bind_eq_some_iff.mp H
      obtain ⟨⟨t421, t422, t423, t424⟩, A150, H⟩ := H
      replace H : ((barscanref20_information.f kj7 a0_0 a0_1 l0_2 1 15).bind fun t425 => ((barscanref08_ParseFormat.f kj7 t425).bind fun bt426 => (if t424 = 0 then (barscanref20_Read.j2 kj7 t417 t421 t422 t423 t424 bt426.1 bt426.2.1 bt426.2.2.1 bt426.2.2.2 false) else (barscanref20_Read.j2 kj7 t417 t421 t422 t423 t424 bt426.1 bt426.2.1 bt426.2.2.1 bt426.2.2.2 (bt426.2.2.2 != 0))))) = some (r1, r2, r3, r4) := H
      have A15 := Aside0.mk A150
      clear A150
      replace H := Option.bind_eq_some_iff.mp H
      obtain ⟨t425, A160, H⟩ := H
      replace H : ((barscanref08_ParseFormat.f kj7 t425).bind fun bt426 => (if t424 = 0 then (barscanref20_Read.j2 kj7 t417 t421 t422 t423 t424 bt426.1 bt426.2.1 bt426.2.2.1 bt426.2.2.2 false) else (barscanref20_Read.j2 kj7 t417 t421 t422 t423 t424 bt426.1 bt426.2.1 bt426.2.2.1 bt426.2.2.2 (bt426.2.2.2 != 0)))) = some (r1, r2, r3, r4) := H
      have A16 := Aside0.mk A160
      clear A160
      replace H := Option.bind_eq_some_iff.mp H
      obtain ⟨⟨t426, t427, t428, t429⟩, A170, H⟩ := H
      replace H : (if t424 = 0 then (barscanref20_Read.j2 kj7 t417 t421 t422 t423 t424 t426 t427 t428 t429 false) else (barscanref20_Read.j2 kj7 t417 t421 t422 t423 t424 t426 t427 t428 t429 (t429 != 0))) = some (r1, r2, r3, r4) := H
      have A17 := Aside0.mk A170
      clear A170
      have HC18 := Aside0.mk H
      clear H
      have hcz19_0 : wc.cell? ⟨gb416, 0, none⟩ = some (.int .i64 a0_0) := (blk_cell BK416.out 0).trans rfl
      have hcz19_1 : wc.cell? ⟨gb416, 1, none⟩ = some (.int .i64 a0_1) := (blk_cell BK416.out 1).trans rfl
      have hcz19_2 : wc.cell? ⟨gb416, 2, none⟩ = some (.slice A0_2 l0_2.length c0_2) := (blk_cell BK416.out 2).trans rfl
      have hfz19_0 := blk_frozen BK416.out 0
      have hfz19_1 := blk_frozen BK416.out 1
      have hfz19_2 := blk_frozen BK416.out 2
      go_upto_region 8 with (first | ((with_reducible refine gate_callee (f := 58) rfl ?_); refine goesL_ (some 35) rfl rfl Try.func58 (by kernel_rfl) rfl #[.agg #[.int .i64 a0_0, .int .i64 a0_1, .slice A0_2 l0_2.length c0_2], .int .i64 0, .int .i64 15] rfl (by (try simp only [List.map_toArray, List.map_cons, List.map_nil]); first | done | rfl | (simp only [List.length_drop, List.length_take]; rfl)) ?_; (with_reducible refine (barscanref20_information.calls kj7 a0_0 a0_1 _ _ l0_2 0 15 t420 _ ?side1 ?side2 A14.out).mono ?_); (case side1 => repeat (first | exact (Kd.C_below HR0_2.out HB.out) | (with_reducible refine Kd.C_alloc ?_ _) | (with_reducible refine Kd.C_drewN ?_ _) | (with_reducible refine Kd.C_drew ?_))); (case side2 => exact HC0_2.out); rintro e w20 ⟨rfl, hb⟩; refine ⟨_, rfl, ?_⟩; have n0_ := Aside0.mk (blk_below (g := gb416) (o := .cells #[.int .i64 a0_0, .int .i64 a0_1, .slice A0_2 l0_2.length c0_2] 24 (0, 0)) (blkA BK416.out) hb); have n1_ := Aside0.mk (below_step (belA HB.out) hb); clear BK416; clear HB; have BK416 := n0_; have HB := n1_; clear n0_ n1_; (try clear hb); (try clear hb2); (try clear hk); (try clear hi)) | ((with_reducible refine gate_callee (f := 57) rfl ?_); refine goesL_ (some 36) rfl rfl Try.func57 (by kernel_rfl) rfl #[.int .i64 t420] rfl (by (try simp only [List.map_toArray, List.map_cons, List.map_nil]); first | done | rfl | (simp only [List.length_drop, List.length_take]; rfl)) ?_; (with_reducible refine (barscanref08_ParseFormat.calls kj7 t420 t421 t422 t423 t424 _ A15.out).mono ?_); rintro e w' ⟨rfl, ⟨nd, rfl⟩⟩; refine ⟨_, rfl, ?_⟩; have hcz21_0 : w20.cell? ⟨gb416, 0, none⟩ = some (.int .i64 a0_0) := (blk_cell BK416.out 0).trans rfl; have hcz21_1 : w20.cell? ⟨gb416, 1, none⟩ = some (.int .i64 a0_1) := (blk_cell BK416.out 1).trans rfl; have hcz21_2 : w20.cell? ⟨gb416, 2, none⟩ = some (.slice A0_2 l0_2.length c0_2) := (blk_cell BK416.out 2).trans rfl; have hfz21_0 := blk_frozen BK416.out 0; have hfz21_1 := blk_frozen BK416.out 1; have hfz21_2 := blk_frozen BK416.out 2) | ((with_reducible refine gate_callee (f := 58) rfl ?_); refine goesL_ (some 43) rfl rfl Try.func58 (by kernel_rfl) rfl #[.agg #[.int .i64 a0_0, .int .i64 a0_1, .slice A0_2 l0_2.length c0_2], .int .i64 1, .int .i64 15] rfl (by (try simp only [List.map_toArray, List.map_cons, List.map_nil]); first | done | rfl | (simp only [List.length_drop, List.length_take]; rfl)) ?_; (with_reducible refine (barscanref20_information.calls kj7 a0_0 a0_1 _ _ l0_2 1 15 t425 _ ?side1 ?side2 A16.out).mono ?_); (case side1 => repeat (first | exact (Kd.C_below HR0_2.out (belA HB.out)) | (with_reducible refine Kd.C_alloc ?_ _) | (with_reducible refine Kd.C_drewN ?_ _) | (with_reducible refine Kd.C_drew ?_))); (case side2 => exact HC0_2.out); rintro e w22 ⟨rfl, hb⟩; refine ⟨_, rfl, ?_⟩; have n0_ := Aside0.mk (blk_below (g := gb416) (o := .cells #[.int .i64 a0_0, .int .i64 a0_1, .slice A0_2 l0_2.length c0_2] 24 (0, 0)) (blkA BK416.out) hb); have n1_ := Aside0.mk (below_step (belA HB.out) hb); clear BK416; clear HB; have BK416 := n0_; have HB := n1_; clear n0_ n1_; (try clear hb); (try clear hb2); (try clear hk); (try clear hi)) | ((with_reducible refine gate_callee (f := 57) rfl ?_); refine goesL_ (some 44) rfl rfl Try.func57 (by kernel_rfl) rfl #[.int .i64 t425] rfl (by (try simp only [List.map_toArray, List.map_cons, List.map_nil]); first | done | rfl | (simp only [List.length_drop, List.length_take]; rfl)) ?_; (with_reducible refine (barscanref08_ParseFormat.calls kj7 t425 t426 t427 t428 t429 _ A17.out).mono ?_); rintro e w' ⟨rfl, ⟨nd, rfl⟩⟩; refine ⟨_, rfl, ?_⟩))
      (try simp only [Act.put, List.setIfInBounds_toArray, List.set_cons_zero, List.set_cons_succ])
      go_cut [54] (fun v54 wc => ∃ (kq : Nat) (x54_17 : Bool), v54 = .bool x54_17 ∧ Aside0 (barscanref20_Read.j2 kq t417 t421 t422 t423 t424 t426 t427 t428 t429 x54_17 = some (r1, r2, r3, r4)) ∧ Aside0 (kq ≤ kj7) ∧ Aside0 (wc.heap[gb416]? = some (.cells #[.int .i64 a0_0, .int .i64 a0_1, (.slice A0_2 l0_2.length c0_2)] 24 (0, 0))) ∧ Aside0 (Below w.heap.size w wc))
      case first =>
       have H := HC18.out
       clear HC18
       by_cases c23 : t424 = 0
       ·rw [if_pos c23] at H
        have c23b0 : (t424 == 0) = true := beq_iff_eq.mpr c23
        have c23b1 : (t424 != 0) = false := bne_eq_false_iff_eq.mpr c23
        clear c23
        (first | rw [c23b0] | (simp only [i64_w, i32_w]; rw [c23b0]) | skip)
        have H' := Aside0.mk H
        clear H
        go_wp2
        go_meet
        case rel => exact ⟨_, (false), (by first | rfl | (simp; done) | (simp [*]; done)), H', ⟨by have := HJ2.out; have := HJ7.out; first | omega | exact Nat.le_refl _⟩, ⟨blkA BK416.out⟩, ⟨belA HB.out⟩⟩
       ·rw [if_neg c23] at H
        have c23b0 : (t424 == 0) = false := beq_eq_false_iff_ne.mpr c23
        have c23b1 : (t424 != 0) = true := bne_iff_ne.mpr c23
        (first | rw [c23b0] | (simp only [i64_w, i32_w]; rw [c23b0]) | skip)
        have H' := Aside0.mk H
        clear H
        go_wp2
        go_meet
        case rel => exact ⟨_, ((t429 != 0)), (by first | rfl | (simp; done) | (simp [*]; done)), H', ⟨by have := HJ2.out; have := HJ7.out; first | omega | exact Nat.le_refl _⟩, ⟨blkA BK416.out⟩, ⟨belA HB.out⟩⟩
      case rest =>
       clear HC18
       try clear c1
       try clear c2
       try clear p2
       try clear c3
       try clear c5
       try clear c7
       try clear c7b0
       try clear c7b1
       try clear c9
       try clear c13
       try clear c13b0
       try clear c13b1
       try clear c20
       try clear c23
       try clear c23b0
       try clear c23b1
       try clear hcz11_0
       try clear hcz11_1
       try clear hcz11_2
       try clear hcz19_0
       try clear hcz19_1
       try clear hcz19_2
       try clear hcz21_0
       try clear hcz21_1
       try clear hcz21_2
       try clear hcz5_0
       try clear hcz5_1
       try clear hcz5_2
       try clear hfz11_0
       try clear hfz11_1
       try clear hfz11_2
       try clear hfz19_0
       try clear hfz19_1
       try clear hfz19_2
       try clear hfz21_0
       try clear hfz21_1
       try clear hfz21_2
       try clear hfz5_0
       try clear hfz5_1
       try clear hfz5_2
       try clear p2
       obtain ⟨kq, x54_17, rfl, HA, HJ17, BK416, HB⟩ := hcut
       cases kq with
       | zero => exact absurd HA.out (by simp [barscanref20_Read.j2])
       | succ kj17 =>
        have H := HA.out
        clear HA
        simp only [barscanref20_Read.j2] at H
        by_cases c24 : x54_17 = true
        ·subst c24
         have H1 : (some (0, 0, 0, 21)) = some (r1, r2, r3, r4) := by rw [if_pos rfl] at H; exact H
         clear H
         have H := H1
         clear H1
         simp only [Option.some.injEq, Prod.mk.injEq] at H
         obtain ⟨rfl, rfl, rfl, rfl⟩ := H
         go_wp2
         refine bodyPost_ret (results_list (rs := [.tmp 2, .tmp 3, .tmp 4, .tmp 5]) rfl (by simp) (.tmp (.tmp (.tmp (.tmp .nil))))) rfl ?_
         exact ⟨by first | rfl | (simp [errW_none, errW_some] <;> rfl) | (simp [*, errW_none, errW_some] <;> rfl), belA HB.out⟩
        ·replace c24 := Bool.eq_false_iff.mpr c24
         subst c24
         have H1 : (if t424 = 0 then (if t429 = 0 then (if t428 < t423 then (some (t417, t426, t427, 0)) else (some (t417, t421, t422, 0))) else (some (t417, t421, t422, 0))) else (some (t417, t426, t427, 0))) = some (r1, r2, r3, r4) := by rw [if_neg (show ¬ (false = true) by decide)] at H; exact H
         clear H
         have H := H1
         clear H1
         by_cases c25 : t424 = 0
         ·rw [if_pos c25] at H
          have c25b0 : (t424 == 0) = true := beq_iff_eq.mpr c25
          have c25b1 : (t424 != 0) = false := bne_eq_false_iff_eq.mpr c25
          clear c25
          by_cases c26 : t429 = 0
          ·rw [if_pos c26] at H
           have c26b0 : (t429 == 0) = true := beq_iff_eq.mpr c26
           have c26b1 : (t429 != 0) = false := bne_eq_false_iff_eq.mpr c26
           clear c26
           by_cases c27 : t428 < t423
           ·rw [if_pos c27] at H
            have c27b0 : decide (t428 < t423) = true := decide_eq_true c27
            clear c27
            simp only [Option.some.injEq, Prod.mk.injEq] at H
            obtain ⟨rfl, rfl, rfl, rfl⟩ := H
            go_wp2
            refine bodyPost_ret (results_list (rs := [.tmp 2, .tmp 3, .tmp 4, .tmp 5]) rfl (by simp) (.tmp (.tmp (.tmp (.tmp .nil))))) rfl ?_
            exact ⟨by first | rfl | (simp [errW_none, errW_some] <;> rfl) | (simp [*, errW_none, errW_some] <;> rfl), belA HB.out⟩
           ·rw [if_neg c27] at H
            have c27b0 : decide (t428 < t423) = false := decide_eq_false c27
            clear c27
            simp only [Option.some.injEq, Prod.mk.injEq] at H
            obtain ⟨rfl, rfl, rfl, rfl⟩ := H
            go_wp2
            refine bodyPost_ret (results_list (rs := [.tmp 2, .tmp 3, .tmp 4, .tmp 5]) rfl (by simp) (.tmp (.tmp (.tmp (.tmp .nil))))) rfl ?_
            exact ⟨by first | rfl | (simp [errW_none, errW_some] <;> rfl) | (simp [*, errW_none, errW_some] <;> rfl), belA HB.out⟩
          ·rw [if_neg c26] at H
           have c26b0 : (t429 == 0) = false := beq_eq_false_iff_ne.mpr c26
           have c26b1 : (t429 != 0) = true := bne_iff_ne.mpr c26
           simp only [Option.some.injEq, Prod.mk.injEq] at H
           obtain ⟨rfl, rfl, rfl, rfl⟩ := H
           go_wp2
           refine bodyPost_ret (results_list (rs := [.tmp 2, .tmp 3, .tmp 4, .tmp 5]) rfl (by simp) (.tmp (.tmp (.tmp (.tmp .nil))))) rfl ?_
           exact ⟨by first | rfl | (simp [errW_none, errW_some] <;> rfl) | (simp [*, errW_none, errW_some] <;> rfl), belA HB.out⟩
         ·rw [if_neg c25] at H
          have c25b0 : (t424 == 0) = false := beq_eq_false_iff_ne.mpr c25
          have c25b1 : (t424 != 0) = true := bne_iff_ne.mpr c25
          simp only [Option.some.injEq, Prod.mk.injEq] at H
          obtain ⟨rfl, rfl, rfl, rfl⟩ := H
          go_wp2
          refine bodyPost_ret (results_list (rs := [.tmp 2, .tmp 3, .tmp 4, .tmp 5]) rfl (by simp) (.tmp (.tmp (.tmp (.tmp .nil))))) rfl ?_
          exact ⟨by first | rfl | (simp [errW_none, errW_some] <;> rfl) | (simp [*, errW_none, errW_some] <;> rfl), belA HB.out⟩
     ·rw [if_neg c13] at H
      have c13b0 : (x7_7 == 0) = false := beq_eq_false_iff_ne.mpr c13
      have c13b1 : (x7_7 != 0) = true := bne_iff_ne.mpr c13
      simp only [Option.some.injEq, Prod.mk.injEq] at H
      obtain ⟨rfl, rfl, rfl, rfl⟩ := H
      go_wp2
      refine bodyPost_ret (results_list (rs := [.tmp 2, .tmp 3, .tmp 4, .tmp 5]) rfl (by simp) (.tmp (.tmp (.tmp (.tmp .nil))))) rfl ?_
      exact ⟨by first | rfl | (simp [errW_none, errW_some] <;> rfl) | (simp [*, errW_none, errW_some] <;> rfl), belA HB.out⟩

end Go.Proofs.Ytbbnagjfjgkgjaa.L
