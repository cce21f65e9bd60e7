-- Written by a program of this session out of the kit's print of the loaded functions (see wip/).
import Derived.Test.YtbbnagjfjgkgjaaK9Lx0
namespace Go.Proofs.Ytbbnagjfjgkgjaa.L
open Go.RowKit Go.Proofs.YtbbnagjfjgkgjaaW.PrintWords Go.Proofs.YtbbnagjfjgkgjaaW.PrintLast Go.Proofs.YtbbnagjfjgkgjaaW.PrintMore
attribute [local go_sem] max2_int min2_int max_two min_two max_three min_three max_four min_four   -- for this text's walks alone
set_option linter.unusedVariables false
set_option linter.unusedSimpArgs false

def barscanref17_words.f  : Option (List Int) := some (([26, 44, 70, 100, 134, 172, 196, 242, 292, 346, 404, 466, 532, 581, 655, 733, 815, 901, 991, 1085, 1156, 1258, 1364, 1474, 1588, 1706, 1828, 1921, 2051, 2185, 2323, 2465, 2611, 2761, 2876, 3034, 3196, 3362, 3532, 3706] : List Int))
set_option maxHeartbeats 8000000 in
set_option maxRecDepth 100000 in
theorem barscanref17_words.calls  (r : List Int) (w : World) (h : barscanref17_words.f  = some r) :
  Calls Try.prog 62 #[] w fun e w' => ∃ v0_ : Value, e = .returned (v0_) ∧ Kd.R (Kd.int .i64) 3 w' w.heap.size (fun _ => True) v0_ r ∧ Below w.heap.size w w' := by
 have HB := Aside0.mk (Below.refl w.heap.size w)
 have H : (some (([26, 44, 70, 100, 134, 172, 196, 242, 292, 346, 404, 466, 532, 581, 655, 733, 815, 901, 991, 1085, 1156, 1258, 1364, 1474, 1588, 1706, 1828, 1921, 2051, 2185, 2323, 2465, 2611, 2761, 2876, 3034, 3196, 3362, 3532, 3706] : List Int))) = some r := h
 clear h
 obtain ⟨y356, hy356⟩ : ∃ y_ : List Int, y_ = (([26, 44, 70, 100, 134, 172, 196, 242, 292, 346, 404, 466, 532, 581, 655, 733, 815, 901, 991, 1085, 1156, 1258, 1364, 1474, 1588, 1706, 1828, 1921, 2051, 2185, 2323, 2465, 2611, 2761, 2876, 3034, 3196, 3362, 3532, 3706] : List Int)) := ⟨_, rfl⟩
 replace H : (some y356) = some r := by first | (rw [hy356]; with_reducible exact H) | (have H2_ := (Option.bind_some _ _).symm.trans H; rw [hy356]; with_reducible exact H2_) | (have H2_ := (Option.bind_some _ _).symm.trans H; with_reducible exact H2_) | with_reducible exact H | (rw [hy356]; exact H) | exact H
 have Ny356 := Aside0.mk hy356
 clear hy356
 obtain rfl := Option.some.inj H
 go_enter Try.func62, Try.ntmps62
 go_wp2_with (first | ((with_reducible refine gate_dst (N := 1) rfl ?_); refine Kd.R_lit (Kd.int .i64) _ 3 ?hg (N := 1) ?hd (xs := ([26, 44, 70, 100, 134, 172, 196, 242, 292, 346, 404, 466, 532, 581, 655, 733, 815, 901, 991, 1085, 1156, 1258, 1364, 1474, 1588, 1706, 1828, 1921, 2051, 2185, 2323, 2465, 2611, 2761, 2876, 3034, 3196, 3362, 3532, 3706] : List Int)) (inner := [.int .i64 26, .int .i64 44, .int .i64 70, .int .i64 100, .int .i64 134, .int .i64 172, .int .i64 196, .int .i64 242, .int .i64 292, .int .i64 346, .int .i64 404, .int .i64 466, .int .i64 532, .int .i64 581, .int .i64 655, .int .i64 733, .int .i64 815, .int .i64 901, .int .i64 991, .int .i64 1085, .int .i64 1156, .int .i64 1258, .int .i64 1364, .int .i64 1474, .int .i64 1588, .int .i64 1706, .int .i64 1828, .int .i64 1921, .int .i64 2051, .int .i64 2185, .int .i64 2323, .int .i64 2465, .int .i64 2611, .int .i64 2761, .int .i64 2876, .int .i64 3034, .int .i64 3196, .int .i64 3362, .int .i64 3532, .int .i64 3706]) (ok := fun _ => True) (okp := fun _ => True) ?hr ?hp (fun _ hk => hk) trivial (Below.refl _ _) (Nat.le_refl _) (by simp) ?_; (case hd => rfl); (case hg => rfl); (case hr => first | (go_simp; done) | (go_simp; rfl)); (case hp => exact (Reps.one (show Kd.M (Kd.int .i64) _ _ _ 26 [.int .i64 26] from rfl) (Reps.one (show Kd.M (Kd.int .i64) _ _ _ 44 [.int .i64 44] from rfl) (Reps.one (show Kd.M (Kd.int .i64) _ _ _ 70 [.int .i64 70] from rfl) (Reps.one (show Kd.M (Kd.int .i64) _ _ _ 100 [.int .i64 100] from rfl) (Reps.one (show Kd.M (Kd.int .i64) _ _ _ 134 [.int .i64 134] from rfl) (Reps.one (show Kd.M (Kd.int .i64) _ _ _ 172 [.int .i64 172] from rfl) (Reps.one (show Kd.M (Kd.int .i64) _ _ _ 196 [.int .i64 196] from rfl) (Reps.one (show Kd.M (Kd.int .i64) _ _ _ 242 [.int .i64 242] from rfl) (Reps.one (show Kd.M (Kd.int .i64) _ _ _ 292 [.int .i64 292] from rfl) (Reps.one (show Kd.M (Kd.int .i64) _ _ _ 346 [.int .i64 346] from rfl) (Reps.one (show Kd.M (Kd.int .i64) _ _ _ 404 [.int .i64 404] from rfl) (Reps.one (show Kd.M (Kd.int .i64) _ _ _ 466 [.int .i64 466] from rfl) (Reps.one (show Kd.M (Kd.int .i64) _ _ _ 532 [.int .i64 532] from rfl) (Reps.one (show Kd.M (Kd.int .i64) _ _ _ 581 [.int .i64 581] from rfl) (Reps.one (show Kd.M (Kd.int .i64) _ _ _ 655 [.int .i64 655] from rfl) (Reps.one (show Kd.M (Kd.int .i64) _ _ _ 733 [.int .i64 733] from rfl) (Reps.one (show Kd.M (Kd.int .i64) _ _ _ 815 [.int .i64 815] from rfl) (Reps.one (show Kd.M (Kd.int .i64) _ _ _ 901 [.int .i64 901] from rfl) (Reps.one (show Kd.M (Kd.int .i64) _ _ _ 991 [.int .i64 991] from rfl) (Reps.one (show Kd.M (Kd.int .i64) _ _ _ 1085 [.int .i64 1085] from rfl) (Reps.one (show Kd.M (Kd.int .i64) _ _ _ 1156 [.int .i64 1156] from rfl) (Reps.one (show Kd.M (Kd.int .i64) _ _ _ 1258 [.int .i64 1258] from rfl) (Reps.one (show Kd.M (Kd.int .i64) _ _ _ 1364 [.int .i64 1364] from rfl) (Reps.one (show Kd.M (Kd.int .i64) _ _ _ 1474 [.int .i64 1474] from rfl) (Reps.one (show Kd.M (Kd.int .i64) _ _ _ 1588 [.int .i64 1588] from rfl) (Reps.one (show Kd.M (Kd.int .i64) _ _ _ 1706 [.int .i64 1706] from rfl) (Reps.one (show Kd.M (Kd.int .i64) _ _ _ 1828 [.int .i64 1828] from rfl) (Reps.one (show Kd.M (Kd.int .i64) _ _ _ 1921 [.int .i64 1921] from rfl) (Reps.one (show Kd.M (Kd.int .i64) _ _ _ 2051 [.int .i64 2051] from rfl) (Reps.one (show Kd.M (Kd.int .i64) _ _ _ 2185 [.int .i64 2185] from rfl) (Reps.one (show Kd.M (Kd.int .i64) _ _ _ 2323 [.int .i64 2323] from rfl) (Reps.one (show Kd.M (Kd.int .i64) _ _ _ 2465 [.int .i64 2465] from rfl) (Reps.one (show Kd.M (Kd.int .i64) _ _ _ 2611 [.int .i64 2611] from rfl) (Reps.one (show Kd.M (Kd.int .i64) _ _ _ 2761 [.int .i64 2761] from rfl) (Reps.one (show Kd.M (Kd.int .i64) _ _ _ 2876 [.int .i64 2876] from rfl) (Reps.one (show Kd.M (Kd.int .i64) _ _ _ 3034 [.int .i64 3034] from rfl) (Reps.one (show Kd.M (Kd.int .i64) _ _ _ 3196 [.int .i64 3196] from rfl) (Reps.one (show Kd.M (Kd.int .i64) _ _ _ 3362 [.int .i64 3362] from rfl) (Reps.one (show Kd.M (Kd.int .i64) _ _ _ 3532 [.int .i64 3532] from rfl) (Reps.one (show Kd.M (Kd.int .i64) _ _ _ 3706 [.int .i64 3706] from rfl) (Reps.none _ _)))))))))))))))))))))))))))))))))))))))))); intro v357 w1 ho2 hb hg_ hnew_; clear hg_ hnew_; (first | rw [← Ny356.out] at ho2 | (simp only [Int.reduceToNat] at ho2; rw [← Ny356.out] at ho2)); have HO358 := Aside0.mk (Kd.R_lower ho2 (below_size (belA HB.out))); replace HB := Aside0.mk (below_step (belA HB.out) hb); clear hb ho2))
 go_ret
 exact ⟨_, errA, rowA HO358.out, belA HB.out⟩

mutual
def barscanref17_Codewords.j0 : Nat → Int → Bool → Option (Int × Int × Int)
 | 0, _, _ => none
 | k + 1, x0, x11 => if x11 = true then (some (0, 0, 14)) else (if x0 ≥ 2 then (barscanref17_Codewords.j1 k x0 0 (decide (x0 ≤ 6))) else (barscanref17_Codewords.j1 k x0 0 false))
def barscanref17_Codewords.j1 : Nat → Int → Int → Bool → Option (Int × Int × Int)
 | 0, _, _, _ => none
 | k + 1, x0, x5, x12 => if x12 = true then ((barscanref17_words.f).bind fun t359 => (if 0 ≤ (wrap64 (x0 - 1)) then (if (wrap64 (x0 - 1)) < (t359.length : Int) then (some (rd t359 (wrap64 (x0 - 1)), 7, 0)) else (none)) else (none))) else (if x0 ≥ 14 then (if x0 ≤ 20 then (barscanref17_Codewords.j2 k x0 x5 true) else (if x0 ≥ 28 then (barscanref17_Codewords.j2 k x0 x5 (decide (x0 ≤ 34))) else (barscanref17_Codewords.j2 k x0 x5 false))) else (if x0 ≥ 28 then (barscanref17_Codewords.j2 k x0 x5 (decide (x0 ≤ 34))) else (barscanref17_Codewords.j2 k x0 x5 false)))
def barscanref17_Codewords.j2 : Nat → Int → Int → Bool → Option (Int × Int × Int)
 | 0, _, _, _ => none
 | k + 1, x0, x5, x19 => if x19 = true then ((barscanref17_words.f).bind fun t363 => (if 0 ≤ (wrap64 (x0 - 1)) then (if (wrap64 (x0 - 1)) < (t363.length : Int) then (some (rd t363 (wrap64 (x0 - 1)), 3, 0)) else (none)) else (none))) else (if x0 ≥ 21 then (if x0 ≤ 27 then ((barscanref17_words.f).bind fun t367 => (if 0 ≤ (wrap64 (x0 - 1)) then (if (wrap64 (x0 - 1)) < (t367.length : Int) then (some (rd t367 (wrap64 (x0 - 1)), 4, 0)) else (none)) else (none))) else ((barscanref17_words.f).bind fun t371 => (if 0 ≤ (wrap64 (x0 - 1)) then (if (wrap64 (x0 - 1)) < (t371.length : Int) then (some (rd t371 (wrap64 (x0 - 1)), x5, 0)) else (none)) else (none)))) else ((barscanref17_words.f).bind fun t375 => (if 0 ≤ (wrap64 (x0 - 1)) then (if (wrap64 (x0 - 1)) < (t375.length : Int) then (some (rd t375 (wrap64 (x0 - 1)), x5, 0)) else (none)) else (none))))
end
def barscanref17_Codewords.f (k : Nat) (a0 : Int) : Option (Int × Int × Int) := if a0 < 1 then (barscanref17_Codewords.j0 k a0 true) else (barscanref17_Codewords.j0 k a0 (decide (a0 > 40)))
theorem barscanref17_Codewords.mono_l : ∀ k, (∀ y0 y1, LeO (barscanref17_Codewords.j0 k y0 y1) (barscanref17_Codewords.j0 (k + 1) y0 y1)) ∧ (∀ y0 y1 y2, LeO (barscanref17_Codewords.j1 k y0 y1 y2) (barscanref17_Codewords.j1 (k + 1) y0 y1 y2)) ∧ (∀ y0 y1 y2, LeO (barscanref17_Codewords.j2 k y0 y1 y2) (barscanref17_Codewords.j2 (k + 1) y0 y1 y2))
 | 0 => ⟨fun _ _ r h => by simp [barscanref17_Codewords.j0] at h, fun _ _ _ r h => by simp [barscanref17_Codewords.j1] at h, fun _ _ _ r h => by simp [barscanref17_Codewords.j2] at h⟩
 | k + 1 => by
  obtain ⟨ih0, ih1, ih2⟩ := barscanref17_Codewords.mono_l k
  refine ⟨?_, ?_, ?_⟩
  ·intro y0 y1
   unfold barscanref17_Codewords.j0
   repeat' first
   | (with_reducible exact ih0 _ _)
   | (with_reducible exact ih1 _ _ _)
   | (with_reducible exact ih2 _ _ _)
   | (with_reducible exact LeO.refl _)
   | (with_reducible exact LeO.none _)
   | (with_reducible refine LeO.ite ?_ ?_)
   | (with_reducible refine LeO.bind ?_ (fun _ => ?_))
   | exact ih0 _ _
   | exact ih1 _ _ _
   | exact ih2 _ _ _
   | exact LeO.none _
   | refine LeO.ite ?_ ?_
   | refine LeO.bind ?_ (fun _ => ?_)
  ·intro y0 y1 y2
   unfold barscanref17_Codewords.j1
   repeat' first
   | (with_reducible exact ih0 _ _)
   | (with_reducible exact ih1 _ _ _)
   | (with_reducible exact ih2 _ _ _)
   | (with_reducible exact LeO.refl _)
   | (with_reducible exact LeO.none _)
   | (with_reducible refine LeO.ite ?_ ?_)
   | (with_reducible refine LeO.bind ?_ (fun _ => ?_))
   | exact ih0 _ _
   | exact ih1 _ _ _
   | exact ih2 _ _ _
   | exact LeO.none _
   | refine LeO.ite ?_ ?_
   | refine LeO.bind ?_ (fun _ => ?_)
  ·intro y0 y1 y2
   unfold barscanref17_Codewords.j2
   repeat' first
   | (with_reducible exact ih0 _ _)
   | (with_reducible exact ih1 _ _ _)
   | (with_reducible exact ih2 _ _ _)
   | (with_reducible exact LeO.refl _)
   | (with_reducible exact LeO.none _)
   | (with_reducible refine LeO.ite ?_ ?_)
   | (with_reducible refine LeO.bind ?_ (fun _ => ?_))
   | exact ih0 _ _
   | exact ih1 _ _ _
   | exact ih2 _ _ _
   | exact LeO.none _
   | refine LeO.ite ?_ ?_
   | refine LeO.bind ?_ (fun _ => ?_)
theorem barscanref17_Codewords.mono : ∀ a0 k, LeO (barscanref17_Codewords.f k a0) (barscanref17_Codewords.f (k + 1) a0) := by
 intro a0 k
 obtain ⟨ih0, ih1, ih2⟩ := barscanref17_Codewords.mono_l k
 unfold barscanref17_Codewords.f
 repeat' first
   | (with_reducible exact ih0 _ _)
   | (with_reducible exact ih1 _ _ _)
   | (with_reducible exact ih2 _ _ _)
   | (with_reducible exact LeO.refl _)
   | (with_reducible exact LeO.none _)
   | (with_reducible refine LeO.ite ?_ ?_)
   | (with_reducible refine LeO.bind ?_ (fun _ => ?_))
   | exact ih0 _ _
   | exact ih1 _ _ _
   | exact ih2 _ _ _
   | exact LeO.none _
   | refine LeO.ite ?_ ?_
   | refine LeO.bind ?_ (fun _ => ?_)
set_option maxHeartbeats 8000000 in
set_option maxRecDepth 100000 in
theorem barscanref17_Codewords.calls (k : Nat) (a0 : Int) (r1 : Int) (r2 : Int) (r3 : Int) (w : World) (h : barscanref17_Codewords.f k a0 = some (r1, r2, r3)) :
  Calls Try.prog 28 #[.int .i64 a0] w fun e w' => e = .returned (.tuple #[.int .i64 r1, .int .i64 r2, .int .i64 r3]) ∧ Below w.heap.size w w' := by
 have HB := Aside0.mk (Below.refl w.heap.size w)
 have H : (if a0 < 1 then (barscanref17_Codewords.j0 k a0 true) else (barscanref17_Codewords.j0 k a0 (decide (a0 > 40)))) = some (r1, r2, r3) := h
 clear h
 have HC2 := Aside0.mk H
 clear H
 go_enter Try.func28, Try.ntmps28
 go_upto_region 1 with (fail)
 go_cut [11] (fun v11 wc => ∃ (kq : Nat) (x11_1 : Bool), v11 = .bool x11_1 ∧ Aside0 (barscanref17_Codewords.j0 kq a0 x11_1 = some (r1, r2, r3)) ∧ Aside0 (kq ≤ k) ∧ Aside0 (Below w.heap.size w wc))
 case first =>
  have H := HC2.out
  clear HC2
  by_cases c3 : a0 < 1
  ·rw [if_pos c3] at H
   have c3b0 : decide (a0 < 1) = true := decide_eq_true c3
   clear c3
   (first | rw [c3b0] | (simp only [i64_w, i32_w]; rw [c3b0]) | skip)
   have H' := Aside0.mk H
   clear H
   go_wp2
   go_meet
   case rel => exact ⟨_, (true), smpA, H', ⟨by first | omega | exact Nat.le_refl _⟩, ⟨belA HB.out⟩⟩
  ·rw [if_neg c3] at H
   have c3b0 : decide (a0 < 1) = false := decide_eq_false c3
   clear c3
   (first | rw [c3b0] | (simp only [i64_w, i32_w]; rw [c3b0]) | skip)
   have H' := Aside0.mk H
   clear H
   go_wp2
   go_meet
   case rel => exact ⟨_, (decide (a0 > 40)), smpA, H', ⟨by first | omega | exact Nat.le_refl _⟩, ⟨belA HB.out⟩⟩
 case rest =>
  clear HC2
  try clear c2
  try clear p2
  try clear c3
  try clear c3b0
  obtain ⟨kq, x11_1, rfl, HA, HJ1, HB⟩ := hcut
  cases kq with
  | zero => exact absurd HA.out (by simp [barscanref17_Codewords.j0])
  | succ kj1 =>
   have H := HA.out
   clear HA
   simp only [barscanref17_Codewords.j0] at H
   by_cases c4 : x11_1 = true
   ·subst c4
    have H1 : (some (0, 0, 14)) = some (r1, r2, r3) := by rw [if_pos rfl] at H; exact H
    clear H
    have H := H1
    clear H1
    simp only [Option.some.injEq, Prod.mk.injEq] at H
    obtain ⟨rfl, rfl, rfl⟩ := H
    go_wp2
    go_ret3
    exact ⟨errA, belA HB.out⟩
   ·replace c4 := Bool.eq_false_iff.mpr c4
    subst c4
    have H1 : (if a0 ≥ 2 then (barscanref17_Codewords.j1 kj1 a0 0 (decide (a0 ≤ 6))) else (barscanref17_Codewords.j1 kj1 a0 0 false)) = some (r1, r2, r3) := by rw [if_neg (show ¬ (false = true) by decide)] at H; exact H
    clear H
    have H := H1
    clear H1
    have HC5 := Aside0.mk H
    clear H
    go_upto_region 4 with (fail)
    go_cut [12] (fun v12 wc => ∃ (kq : Nat) (x12_4 : Bool), v12 = .bool x12_4 ∧ Aside0 (barscanref17_Codewords.j1 kq a0 0 x12_4 = some (r1, r2, r3)) ∧ Aside0 (kq ≤ kj1) ∧ Aside0 (Below w.heap.size w wc))
    case first =>
     have H := HC5.out
     clear HC5
     by_cases c6 : a0 ≥ 2
     ·rw [if_pos c6] at H
      have c6b0 : decide (2 ≤ a0) = true := decide_eq_true c6
      clear c6
      (first | rw [c6b0] | (simp only [i64_w, i32_w]; rw [c6b0]) | skip)
      have H' := Aside0.mk H
      clear H
      go_wp2
      go_meet
      case rel => exact ⟨_, (decide (a0 ≤ 6)), smpA, H', ⟨by have := HJ1.out; first | omega | exact Nat.le_refl _⟩, ⟨belA HB.out⟩⟩
     ·rw [if_neg c6] at H
      have c6b0 : decide (2 ≤ a0) = false := decide_eq_false c6
      clear c6
      (first | rw [c6b0] | (simp only [i64_w, i32_w]; rw [c6b0]) | skip)
      have H' := Aside0.mk H
      clear H
      go_wp2
      go_meet
      case rel => exact ⟨_, (false), smpA, H', ⟨by have := HJ1.out; first | omega | exact Nat.le_refl _⟩, ⟨belA HB.out⟩⟩
    case rest =>
     clear HC5
     try clear c2
     try clear p2
     try clear c3
     try clear c3b0
     try clear c4
     try clear c6
     try clear c6b0
     try clear p2
     obtain ⟨kq, x12_4, rfl, HA, HJ4, HB⟩ := hcut
     cases kq with
     | zero => exact absurd HA.out (by simp [barscanref17_Codewords.j1])
     | succ kj4 =>
      have H := HA.out
      clear HA
      simp only [barscanref17_Codewords.j1] at H
      by_cases c7 : x12_4 = true
      ·subst c7
       have H1 : ((barscanref17_words.f).bind fun t359 => (if 0 ≤ (wrap64 (a0 - 1)) then (if (wrap64 (a0 - 1)) < (t359.length : Int) then (some (rd t359 (wrap64 (a0 - 1)), 7, 0)) else (none)) else (none))) = some (r1, r2, r3) := by rw [if_pos rfl] at H; exact H
       clear H
       have H := H1
       clear H1
       replace H := Option.bind_eq_some_iff.mp H
       obtain ⟨t359, A80, H⟩ := H
       replace H : (if 0 ≤ (wrap64 (a0 - 1)) then (if (wrap64 (a0 - 1)) < (t359.length : Int) then (some (rd t359 (wrap64 (a0 - 1)), 7, 0)) else (none)) else (none)) = some (r1, r2, r3) := H
       have A8 := Aside0.mk A80
       clear A80
       obtain ⟨ji9, hji9⟩ : ∃ j_ : Int, (wrap64 (a0 - 1)) = j_ := ⟨_, rfl⟩
       replace H : (if 0 ≤ (ji9) then (if (ji9) < (t359.length : Int) then (some (rd t359 (ji9), 7, 0)) else (none)) else (none)) = some (r1, r2, r3) := by first | (rw [hji9] at H; exact H) | (simp only [hji9] at H ⊢; exact H)
       (try rw [hji9] at A8)
       have hji9w : (IntKind.i64.wrap (a0 - 1)) = ji9 := (i64_w _).trans hji9
       by_cases c10 : 0 ≤ (ji9)
       ·rw [if_pos c10] at H
        have c10b0 : decide (0 ≤ (ji9)) = true := decide_eq_true c10
        clear c10
        by_cases c11 : (ji9) < (t359.length : Int)
        ·rw [if_pos c11] at H
         have c11b0 : decide ((ji9) < (t359.length : Int)) = true := decide_eq_true c11
         clear c11
         simp only [Option.some.injEq, Prod.mk.injEq] at H
         obtain ⟨rfl, rfl, rfl⟩ := H
         go_wp2_with (first | ((with_reducible refine gate_callee (f := 62) rfl ?_); refine goesL_ (some 41) rfl rfl Try.func62 (by kernel_rfl) rfl #[] rfl argA ?_; (with_reducible refine (barscanref17_words.calls  t359 _ A8.out).mono ?_); rintro e w12 ⟨v360, rfl, ho0, hb⟩; refine ⟨_, rfl, ?_⟩; have HO361 := Aside0.mk (Kd.R_lower ho0 (below_size (belA HB.out))); replace HB := Aside0.mk (below_step (belA HB.out) hb); (try clear hb); (try clear hb2); (try clear hk); (try clear hi); (try clear ho0); obtain ⟨Ao13, co13, eo13⟩ := Kd.R_slice HO361.out; subst eo13; have p362 : 0 ≤ ((ji9) : Int) := of_decide_eq_true (by first | (with_reducible assumption) | assumption); have q362 : (ji9) < (t359.length : Int) := of_decide_eq_true (by first | (with_reducible assumption) | assumption); obtain ⟨ad362, e362, hx362_0⟩ := Kd.at_int (Kd.R_reads' HO361.out).2.2 (ji9) p362 q362; cases e362; replace p362 := eq_true p362; replace q362 := eq_true q362))
         go_ret3
         exact ⟨by first | rfl | (simp [errW_none, errW_some] <;> rfl) | (simp only [← hji9]; first | rfl | (simp [errW_none, errW_some] <;> rfl)) | (simp [*, errW_none, errW_some] <;> rfl), belA HB.out⟩
        ·rw [if_neg c11] at H
         exact absurd H (by simp)
       ·rw [if_neg c10] at H
        exact absurd H (by simp)
      ·replace c7 := Bool.eq_false_iff.mpr c7
       subst c7
       have H1 : (if a0 ≥ 14 then (if a0 ≤ 20 then (barscanref17_Codewords.j2 kj4 a0 0 true) else (if a0 ≥ 28 then (barscanref17_Codewords.j2 kj4 a0 0 (decide (a0 ≤ 34))) else (barscanref17_Codewords.j2 kj4 a0 0 false))) else (if a0 ≥ 28 then (barscanref17_Codewords.j2 kj4 a0 0 (decide (a0 ≤ 34))) else (barscanref17_Codewords.j2 kj4 a0 0 false))) = some (r1, r2, r3) := by rw [if_neg (show ¬ (false = true) by decide)] at H; exact H
       clear H
       have H := H1
       clear H1
       have HC14 := Aside0.mk H
       clear H
       go_upto_region 6 with (fail)
       go_cut [19] (fun v19 wc => ∃ (kq : Nat) (x19_13 : Bool), v19 = .bool x19_13 ∧ Aside0 (barscanref17_Codewords.j2 kq a0 0 x19_13 = some (r1, r2, r3)) ∧ Aside0 (kq ≤ kj4) ∧ Aside0 (Below w.heap.size w wc))
       case first =>
        have H := HC14.out
        clear HC14
        by_cases c15 : a0 ≥ 14
        ·rw [if_pos c15] at H
         have c15b0 : decide (14 ≤ a0) = true := decide_eq_true c15
         clear c15
         (first | rw [c15b0] | (simp only [i64_w, i32_w]; rw [c15b0]) | skip)
         by_cases c16 : a0 ≤ 20
         ·rw [if_pos c16] at H
          have c16b0 : decide (a0 ≤ 20) = true := decide_eq_true c16
          clear c16
          have H' := Aside0.mk H
          clear H
          go_wp2
          go_meet
          case rel => exact ⟨_, (true), smpA, H', ⟨by have := HJ1.out; have := HJ4.out; first | omega | exact Nat.le_refl _⟩, ⟨belA HB.out⟩⟩
         ·rw [if_neg c16] at H
          have c16b0 : decide (a0 ≤ 20) = false := decide_eq_false c16
          clear c16
          by_cases c17 : a0 ≥ 28
          ·rw [if_pos c17] at H
           have c17b0 : decide (28 ≤ a0) = true := decide_eq_true c17
           clear c17
           have H' := Aside0.mk H
           clear H
           go_wp2
           go_meet
           case rel => exact ⟨_, (decide (a0 ≤ 34)), smpA, H', ⟨by have := HJ1.out; have := HJ4.out; first | omega | exact Nat.le_refl _⟩, ⟨belA HB.out⟩⟩
          ·rw [if_neg c17] at H
           have c17b0 : decide (28 ≤ a0) = false := decide_eq_false c17
           clear c17
           have H' := Aside0.mk H
           clear H
           go_wp2
           go_meet
           case rel => exact ⟨_, (false), smpA, H', ⟨by have := HJ1.out; have := HJ4.out; first | omega | exact Nat.le_refl _⟩, ⟨belA HB.out⟩⟩
        ·rw [if_neg c15] at H
         have c15b0 : decide (14 ≤ a0) = false := decide_eq_false c15
         clear c15
         (first | rw [c15b0] | (simp only [i64_w, i32_w]; rw [c15b0]) | skip)
         by_cases c18 : a0 ≥ 28
         ·rw [if_pos c18] at H
          have c18b0 : decide (28 ≤ a0) = true := decide_eq_true c18
          clear c18
          have H' := Aside0.mk H
          clear H
          go_wp2
          go_meet
          case rel => exact ⟨_, (decide (a0 ≤ 34)), smpA, H', ⟨by have := HJ1.out; have := HJ4.out; first | omega | exact Nat.le_refl _⟩, ⟨belA HB.out⟩⟩
         ·rw [if_neg c18] at H
          have c18b0 : decide (28 ≤ a0) = false := decide_eq_false c18
          clear c18
          have H' := Aside0.mk H
          clear H
          go_wp2
          go_meet
          case rel => exact ⟨_, (false), smpA, H', ⟨by have := HJ1.out; have := HJ4.out; first | omega | exact Nat.le_refl _⟩, ⟨belA HB.out⟩⟩
       case rest =>
        clear HC14
        try clear c1
        try clear c2
        try clear p2
        try clear c3
        try clear c3b0
        try clear p3
        try clear q3
        try clear hx3
        try clear c4
        try clear c6
        try clear c6b0
        try clear p6
        try clear c7
        try clear c10
        try clear c10b0
        try clear c11
        try clear c11b0
        try clear c15
        try clear c15b0
        try clear c16
        try clear c16b0
        try clear c17
        try clear c17b0
        try clear c18
        try clear c18b0
        try clear hx362_0
        try clear p2
        try clear p362
        try clear q362
        obtain ⟨kq, x19_13, rfl, HA, HJ13, HB⟩ := hcut
        cases kq with
        | zero => exact absurd HA.out (by simp [barscanref17_Codewords.j2])
        | succ kj13 =>
         have H := HA.out
         clear HA
         simp only [barscanref17_Codewords.j2] at H
         by_cases c19 : x19_13 = true
         ·subst c19
          have H1 : ((barscanref17_words.f).bind fun t363 => (if 0 ≤ (wrap64 (a0 - 1)) then (if (wrap64 (a0 - 1)) < (t363.length : Int) then (some (rd t363 (wrap64 (a0 - 1)), 3, 0)) else (none)) else (none))) = some (r1, r2, r3) := by rw [if_pos rfl] at H; exact H
          clear H
          have H := H1
          clear H1
          replace H := Option.bind_eq_some_iff.mp H
          obtain ⟨t363, A200, H⟩ := H
          replace H : (if 0 ≤ (wrap64 (a0 - 1)) then (if (wrap64 (a0 - 1)) < (t363.length : Int) then (some (rd t363 (wrap64 (a0 - 1)), 3, 0)) else (none)) else (none)) = some (r1, r2, r3) := H
          have A20 := Aside0.mk A200
          clear A200
          obtain ⟨ji21, hji21⟩ : ∃ j_ : Int, (wrap64 (a0 - 1)) = j_ := ⟨_, rfl⟩
          replace H : (if 0 ≤ (ji21) then (if (ji21) < (t363.length : Int) then (some (rd t363 (ji21), 3, 0)) else (none)) else (none)) = some (r1, r2, r3) := by first | (rw [hji21] at H; exact H) | (simp only [hji21] at H ⊢; exact H)
          (try rw [hji21] at A20)
          have hji21w : (IntKind.i64.wrap (a0 - 1)) = ji21 := (i64_w _).trans hji21
          by_cases c22 : 0 ≤ (ji21)
          ·rw [if_pos c22] at H
           have c22b0 : decide (0 ≤ (ji21)) = true := decide_eq_true c22
           clear c22
           by_cases c23 : (ji21) < (t363.length : Int)
           ·rw [if_pos c23] at H
            have c23b0 : decide ((ji21) < (t363.length : Int)) = true := decide_eq_true c23
            clear c23
            simp only [Option.some.injEq, Prod.mk.injEq] at H
            obtain ⟨rfl, rfl, rfl⟩ := H
            go_wp2_with (first | ((with_reducible refine gate_callee (f := 62) rfl ?_); refine goesL_ (some 41) rfl rfl Try.func62 (by kernel_rfl) rfl #[] rfl argA ?_; (with_reducible refine (barscanref17_words.calls  t363 _ A20.out).mono ?_); rintro e w24 ⟨v364, rfl, ho0, hb⟩; refine ⟨_, rfl, ?_⟩; have HO365 := Aside0.mk (Kd.R_lower ho0 (below_size (belA HB.out))); replace HB := Aside0.mk (below_step (belA HB.out) hb); (try clear hb); (try clear hb2); (try clear hk); (try clear hi); (try clear ho0); obtain ⟨Ao25, co25, eo25⟩ := Kd.R_slice HO365.out; subst eo25; have p366 : 0 ≤ ((ji21) : Int) := of_decide_eq_true (by first | (with_reducible assumption) | assumption); have q366 : (ji21) < (t363.length : Int) := of_decide_eq_true (by first | (with_reducible assumption) | assumption); obtain ⟨ad366, e366, hx366_0⟩ := Kd.at_int (Kd.R_reads' HO365.out).2.2 (ji21) p366 q366; cases e366; replace p366 := eq_true p366; replace q366 := eq_true q366))
            go_ret3
            exact ⟨by first | rfl | (simp [errW_none, errW_some] <;> rfl) | (simp only [← hji21]; first | rfl | (simp [errW_none, errW_some] <;> rfl)) | (simp [*, errW_none, errW_some] <;> rfl), belA HB.out⟩
           ·rw [if_neg c23] at H
            exact absurd H (by simp)
          ·rw [if_neg c22] at H
           exact absurd H (by simp)
         ·replace c19 := Bool.eq_false_iff.mpr c19
          subst c19
          have H1 : (if a0 ≥ 21 then (if a0 ≤ 27 then ((barscanref17_words.f).bind fun t367 => (if 0 ≤ (wrap64 (a0 - 1)) then (if (wrap64 (a0 - 1)) < (t367.length : Int) then (some (rd t367 (wrap64 (a0 - 1)), 4, 0)) else (none)) else (none))) else ((barscanref17_words.f).bind fun t371 => (if 0 ≤ (wrap64 (a0 - 1)) then (if (wrap64 (a0 - 1)) < (t371.length : Int) then (some (rd t371 (wrap64 (a0 - 1)), 0, 0)) else (none)) else (none)))) else ((barscanref17_words.f).bind fun t375 => (if 0 ≤ (wrap64 (a0 - 1)) then (if (wrap64 (a0 - 1)) < (t375.length : Int) then (some (rd t375 (wrap64 (a0 - 1)), 0, 0)) else (none)) else (none)))) = some (r1, r2, r3) := by rw [if_neg (show ¬ (false = true) by decide)] at H; exact H
          clear H
          have H := H1
          clear H1
          by_cases c26 : a0 ≥ 21
          ·rw [if_pos c26] at H
           have c26b0 : decide (21 ≤ a0) = true := decide_eq_true c26
           clear c26
           by_cases c27 : a0 ≤ 27
           ·rw [if_pos c27] at H
            have c27b0 : decide (a0 ≤ 27) = true := decide_eq_true c27
            clear c27
            replace H := Option.bind_eq_some_iff.mp H
            obtain ⟨t367, A280, H⟩ := H
            replace H : (if 0 ≤ (wrap64 (a0 - 1)) then (if (wrap64 (a0 - 1)) < (t367.length : Int) then (some (rd t367 (wrap64 (a0 - 1)), 4, 0)) else (none)) else (none)) = some (r1, r2, r3) := H
            have A28 := Aside0.mk A280
            clear A280
            obtain ⟨ji29, hji29⟩ : ∃ j_ : Int, (wrap64 (a0 - 1)) = j_ := ⟨_, rfl⟩
            replace H : (if 0 ≤ (ji29) then (if (ji29) < (t367.length : Int) then (some (rd t367 (ji29), 4, 0)) else (none)) else (none)) = some (r1, r2, r3) := by first | (rw [hji29] at H; exact H) | (simp only [hji29] at H ⊢; exact H)
            (try rw [hji29] at A28)
            have hji29w : (IntKind.i64.wrap (a0 - 1)) = ji29 := (i64_w _).trans hji29
            by_cases c30 : 0 ≤ (ji29)
            ·rw [if_pos c30] at H
             have c30b0 : decide (0 ≤ (ji29)) = true := decide_eq_true c30
             clear c30
             by_cases c31 : (ji29) < (t367.length : Int)
             ·rw [if_pos c31] at H
              have c31b0 : decide ((ji29) < (t367.length : Int)) = true := decide_eq_true c31
              clear c31
              simp only [Option.some.injEq, Prod.mk.injEq] at H
              obtain ⟨rfl, rfl, rfl⟩ := H
              go_wp2_with (first | ((with_reducible refine gate_callee (f := 62) rfl ?_); refine goesL_ (some 41) rfl rfl Try.func62 (by kernel_rfl) rfl #[] rfl argA ?_; (with_reducible refine (barscanref17_words.calls  t367 _ A28.out).mono ?_); rintro e w32 ⟨v368, rfl, ho0, hb⟩; refine ⟨_, rfl, ?_⟩; have HO369 := Aside0.mk (Kd.R_lower ho0 (below_size (belA HB.out))); replace HB := Aside0.mk (below_step (belA HB.out) hb); (try clear hb); (try clear hb2); (try clear hk); (try clear hi); (try clear ho0); obtain ⟨Ao33, co33, eo33⟩ := Kd.R_slice HO369.out; subst eo33; have p370 : 0 ≤ ((ji29) : Int) := of_decide_eq_true (by first | (with_reducible assumption) | assumption); have q370 : (ji29) < (t367.length : Int) := of_decide_eq_true (by first | (with_reducible assumption) | assumption); obtain ⟨ad370, e370, hx370_0⟩ := Kd.at_int (Kd.R_reads' HO369.out).2.2 (ji29) p370 q370; cases e370; replace p370 := eq_true p370; replace q370 := eq_true q370))
              go_ret3
              exact ⟨by first | rfl | (simp [errW_none, errW_some] <;> rfl) | (simp only [← hji29]; first | rfl | (simp [errW_none, errW_some] <;> rfl)) | (simp [*, errW_none, errW_some] <;> rfl), belA HB.out⟩
             ·rw [if_neg c31] at H
              exact absurd H (by simp)
            ·rw [if_neg c30] at H
             exact absurd H (by simp)
           ·rw [if_neg c27] at H
            have c27b0 : decide (a0 ≤ 27) = false := decide_eq_false c27
            clear c27
            replace H := Option.bind_eq_some_iff.mp H
            obtain ⟨t371, A340, H⟩ := H
            replace H : (if 0 ≤ (wrap64 (a0 - 1)) then (if (wrap64 (a0 - 1)) < (t371.length : Int) then (some (rd t371 (wrap64 (a0 - 1)), 0, 0)) else (none)) else (none)) = some (r1, r2, r3) := H
            have A34 := Aside0.mk A340
            clear A340
            obtain ⟨ji35, hji35⟩ : ∃ j_ : Int, (wrap64 (a0 - 1)) = j_ := ⟨_, rfl⟩
            replace H : (if 0 ≤ (ji35) then (if (ji35) < (t371.length : Int) then (some (rd t371 (ji35), 0, 0)) else (none)) else (none)) = some (r1, r2, r3) := by first | (rw [hji35] at H; exact H) | (simp only [hji35] at H ⊢; exact H)
            (try rw [hji35] at A34)
            have hji35w : (IntKind.i64.wrap (a0 - 1)) = ji35 := (i64_w _).trans hji35
            by_cases c36 : 0 ≤ (ji35)
            ·rw [if_pos c36] at H
             have c36b0 : decide (0 ≤ (ji35)) = true := decide_eq_true c36
             clear c36
             by_cases c37 : (ji35) < (t371.length : Int)
             ·rw [if_pos c37] at H
              have c37b0 : decide ((ji35) < (t371.length : Int)) = true := decide_eq_true c37
              clear c37
              simp only [Option.some.injEq, Prod.mk.injEq] at H
              obtain ⟨rfl, rfl, rfl⟩ := H
              go_wp2_with (first | ((with_reducible refine gate_callee (f := 62) rfl ?_); refine goesL_ (some 41) rfl rfl Try.func62 (by kernel_rfl) rfl #[] rfl argA ?_; (with_reducible refine (barscanref17_words.calls  t371 _ A34.out).mono ?_); rintro e w38 ⟨v372, rfl, ho0, hb⟩; refine ⟨_, rfl, ?_⟩; have HO373 := Aside0.mk (Kd.R_lower ho0 (below_size (belA HB.out))); replace HB := Aside0.mk (below_step (belA HB.out) hb); (try clear hb); (try clear hb2); (try clear hk); (try clear hi); (try clear ho0); obtain ⟨Ao39, co39, eo39⟩ := Kd.R_slice HO373.out; subst eo39; have p374 : 0 ≤ ((ji35) : Int) := of_decide_eq_true (by first | (with_reducible assumption) | assumption); have q374 : (ji35) < (t371.length : Int) := of_decide_eq_true (by first | (with_reducible assumption) | assumption); obtain ⟨ad374, e374, hx374_0⟩ := Kd.at_int (Kd.R_reads' HO373.out).2.2 (ji35) p374 q374; cases e374; replace p374 := eq_true p374; replace q374 := eq_true q374))
              go_ret3
              exact ⟨by first | rfl | (simp [errW_none, errW_some] <;> rfl) | (simp only [← hji35]; first | rfl | (simp [errW_none, errW_some] <;> rfl)) | (simp [*, errW_none, errW_some] <;> rfl), belA HB.out⟩
             ·rw [if_neg c37] at H
              exact absurd H (by simp)
            ·rw [if_neg c36] at H
             exact absurd H (by simp)
          ·rw [if_neg c26] at H
           have c26b0 : decide (21 ≤ a0) = false := decide_eq_false c26
           clear c26
           replace H := Option.bind_eq_some_iff.mp H
           obtain ⟨t375, A400, H⟩ := H
           replace H : (if 0 ≤ (wrap64 (a0 - 1)) then (if (wrap64 (a0 - 1)) < (t375.length : Int) then (some (rd t375 (wrap64 (a0 - 1)), 0, 0)) else (none)) else (none)) = some (r1, r2, r3) := H
           have A40 := Aside0.mk A400
           clear A400
           obtain ⟨ji41, hji41⟩ : ∃ j_ : Int, (wrap64 (a0 - 1)) = j_ := ⟨_, rfl⟩
           replace H : (if 0 ≤ (ji41) then (if (ji41) < (t375.length : Int) then (some (rd t375 (ji41), 0, 0)) else (none)) else (none)) = some (r1, r2, r3) := by first | (rw [hji41] at H; exact H) | (simp only [hji41] at H ⊢; exact H)
           (try rw [hji41] at A40)
           have hji41w : (IntKind.i64.wrap (a0 - 1)) = ji41 := (i64_w _).trans hji41
           by_cases c42 : 0 ≤ (ji41)
           ·rw [if_pos c42] at H
            have c42b0 : decide (0 ≤ (ji41)) = true := decide_eq_true c42
            clear c42
            by_cases c43 : (ji41) < (t375.length : Int)
            ·rw [if_pos c43] at H
             have c43b0 : decide ((ji41) < (t375.length : Int)) = true := decide_eq_true c43
             clear c43
             simp only [Option.some.injEq, Prod.mk.injEq] at H
             obtain ⟨rfl, rfl, rfl⟩ := H
             go_wp2_with (first | ((with_reducible refine gate_callee (f := 62) rfl ?_); refine goesL_ (some 41) rfl rfl Try.func62 (by kernel_rfl) rfl #[] rfl argA ?_; (with_reducible refine (barscanref17_words.calls  t375 _ A40.out).mono ?_); rintro e w44 ⟨v376, rfl, ho0, hb⟩; refine ⟨_, rfl, ?_⟩; have HO377 := Aside0.mk (Kd.R_lower ho0 (below_size (belA HB.out))); replace HB := Aside0.mk (below_step (belA HB.out) hb); (try clear hb); (try clear hb2); (try clear hk); (try clear hi); (try clear ho0); obtain ⟨Ao45, co45, eo45⟩ := Kd.R_slice HO377.out; subst eo45; have p378 : 0 ≤ ((ji41) : Int) := of_decide_eq_true (by first | (with_reducible assumption) | assumption); have q378 : (ji41) < (t375.length : Int) := of_decide_eq_true (by first | (with_reducible assumption) | assumption); obtain ⟨ad378, e378, hx378_0⟩ := Kd.at_int (Kd.R_reads' HO377.out).2.2 (ji41) p378 q378; cases e378; replace p378 := eq_true p378; replace q378 := eq_true q378))
             go_ret3
             exact ⟨by first | rfl | (simp [errW_none, errW_some] <;> rfl) | (simp only [← hji41]; first | rfl | (simp [errW_none, errW_some] <;> rfl)) | (simp [*, errW_none, errW_some] <;> rfl), belA HB.out⟩
            ·rw [if_neg c43] at H
             exact absurd H (by simp)
           ·rw [if_neg c42] at H
            exact absurd H (by simp)

end Go.Proofs.Ytbbnagjfjgkgjaa.L
