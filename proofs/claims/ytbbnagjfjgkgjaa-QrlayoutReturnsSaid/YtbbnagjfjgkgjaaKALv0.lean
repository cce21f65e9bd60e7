-- Written by a program of this session out of the kit's print of the loaded functions (see wip/).
import Derived.Test.YtbbnagjfjgkgjaaKALx0
namespace Go.Proofs.Ytbbnagjfjgkgjaa.L
open Go.RowKit Go.Proofs.YtbbnagjfjgkgjaaW.PrintWords Go.Proofs.YtbbnagjfjgkgjaaW.PrintLast Go.Proofs.YtbbnagjfjgkgjaaW.PrintMore
attribute [local go_sem] max2_int min2_int max_two min_two max_three min_three max_four min_four   -- for this text's walks alone
set_option linter.unusedVariables false
set_option linter.unusedSimpArgs false

def barscanref17_words.f  : Option (List Int) := some (([26, 44, 70, 100, 134, 172, 196, 242, 292, 346, 404, 466, 532, 581, 655, 733, 815, 901, 991, 1085, 1156, 1258, 1364, 1474, 1588, 1706, 1828, 1921, 2051, 2185, 2323, 2465, 2611, 2761, 2876, 3034, 3196, 3362, 3532, 3706] : List Int))
mutual
def barscanref17_Codewords.j0 : Nat → Int → Bool → Option (Int × Int × Int)
 | 0, _, _ => none
 | k + 1, x0, x11 => if x11 = true then (some (0, 0, 14)) else (if x0 ≥ 2 then (barscanref17_Codewords.j1 k x0 0 (decide (x0 ≤ 6))) else (barscanref17_Codewords.j1 k x0 0 false))
def barscanref17_Codewords.j1 : Nat → Int → Int → Bool → Option (Int × Int × Int)
 | 0, _, _, _ => none
 | k + 1, x0, x5, x12 => if x12 = true then ((barscanref17_words.f).bind fun t359 => (if 0 ≤ (wrap64 (x0 - 1)) then (if (wrap64 (x0 - 1)) < (t359.length : Int) then (some (rd t359 (wrap64 (x0 - 1)), 7, 0)) else (none)) else (none))) else (if x0 ≥ 14 then (if x0 ≤ 20 then (barscanref17_Codewords.j2 k x0 x5 true) else (if x0 ≥ 28 then (barscanref17_Codewords.j2 k x0 x5 (decide (x0 ≤ 34))) else (barscanref17_Codewords.j2 k x0 x5 false))) else (if x0 ≥ 28 then (barscanref17_Codewords.j2 k x0 x5 (decide (x0 ≤ 34))) else (barscanref17_Codewords.j2 k x0 x5 false)))
def barscanref17_Codewords.j2 : Nat → Int → Int → Bool → Option (Int × Int × Int)
 | 0, _, _, _ => none
 | k + 1, x0, x5, x19 => if x19 = true then ((barscanref17_words.f).bind fun t363 => (if 0 ≤ (wrap64 (x0 - 1)) then (if (wrap64 (x0 - 1)) < (t363.length : Int) then (some (rd t363 (wrap64 (x0 - 1)), 3, 0)) else (none)) else (none))) else (if x0 ≥ 21 then (if x0 ≤ 27 then ((barscanref17_words.f).bind fun t367 => (if 0 ≤ (wrap64 (x0 - 1)) then (if (wrap64 (x0 - 1)) < (t367.length : Int) then (some (rd t367 (wrap64 (x0 - 1)), 4, 0)) else (none)) else (none))) else ((barscanref17_words.f).bind fun t371 => (if 0 ≤ (wrap64 (x0 - 1)) then (if (wrap64 (x0 - 1)) < (t371.length : Int) then (some (rd t371 (wrap64 (x0 - 1)), x5, 0)) else (none)) else (none)))) else ((barscanref17_words.f).bind fun t375 => (if 0 ≤ (wrap64 (x0 - 1)) then (if (wrap64 (x0 - 1)) < (t375.length : Int) then (some (rd t375 (wrap64 (x0 - 1)), x5, 0)) else (none)) else (none))))
end
def barscanref17_Codewords.f (k : Nat) (a0 : Int) : Option (Int × Int × Int) := if a0 < 1 then (barscanref17_Codewords.j0 k a0 true) else (barscanref17_Codewords.j0 k a0 (decide (a0 > 40)))
theorem barscanref17_Codewords.mono_l : ∀ k, (∀ y0 y1, LeO (barscanref17_Codewords.j0 k y0 y1) (barscanref17_Codewords.j0 (k + 1) y0 y1)) ∧ (∀ y0 y1 y2, LeO (barscanref17_Codewords.j1 k y0 y1 y2) (barscanref17_Codewords.j1 (k + 1) y0 y1 y2)) ∧ (∀ y0 y1 y2, LeO (barscanref17_Codewords.j2 k y0 y1 y2) (barscanref17_Codewords.j2 (k + 1) y0 y1 y2))
 | 0 => ⟨fun _ _ r h => by simp [barscanref17_Codewords.j0] at h, fun _ _ _ r h => by simp [barscanref17_Codewords.j1] at h, fun _ _ _ r h => by simp [barscanref17_Codewords.j2] at h⟩
 | k + 1 => by
  obtain ⟨ih0, ih1, ih2⟩ := barscanref17_Codewords.mono_l k
  refine ⟨?_, ?_, ?_⟩
  ·intro y0 y1
   unfold barscanref17_Codewords.j0
   repeat' first
   | (with_reducible exact ih0 _ _)
   | (with_reducible exact ih1 _ _ _)
   | (with_reducible exact ih2 _ _ _)
   | (with_reducible exact LeO.refl _)
   | (with_reducible exact LeO.none _)
   | (with_reducible refine LeO.ite ?_ ?_)
   | (with_reducible refine LeO.bind ?_ (fun _ => ?_))
   | exact ih0 _ _
   | exact ih1 _ _ _
   | exact ih2 _ _ _
   | exact LeO.none _
   | refine LeO.ite ?_ ?_
   | refine LeO.bind ?_ (fun _ => ?_)
  ·intro y0 y1 y2
   unfold barscanref17_Codewords.j1
   repeat' first
   | (with_reducible exact ih0 _ _)
   | (with_reducible exact ih1 _ _ _)
   | (with_reducible exact ih2 _ _ _)
   | (with_reducible exact LeO.refl _)
   | (with_reducible exact LeO.none _)
   | (with_reducible refine LeO.ite ?_ ?_)
   | (with_reducible refine LeO.bind ?_ (fun _ => ?_))
   | exact ih0 _ _
   | exact ih1 _ _ _
   | exact ih2 _ _ _
   | exact LeO.none _
   | refine LeO.ite ?_ ?_
   | refine LeO.bind ?_ (fun _ => ?_)
  ·intro y0 y1 y2
   unfold barscanref17_Codewords.j2
   repeat' first
   | (with_reducible exact ih0 _ _)
   | (with_reducible exact ih1 _ _ _)
   | (with_reducible exact ih2 _ _ _)
   | (with_reducible exact LeO.refl _)
   | (with_reducible exact LeO.none _)
   | (with_reducible refine LeO.ite ?_ ?_)
   | (with_reducible refine LeO.bind ?_ (fun _ => ?_))
   | exact ih0 _ _
   | exact ih1 _ _ _
   | exact ih2 _ _ _
   | exact LeO.none _
   | refine LeO.ite ?_ ?_
   | refine LeO.bind ?_ (fun _ => ?_)
theorem barscanref17_Codewords.mono : ∀ a0 k, LeO (barscanref17_Codewords.f k a0) (barscanref17_Codewords.f (k + 1) a0) := by
 intro a0 k
 obtain ⟨ih0, ih1, ih2⟩ := barscanref17_Codewords.mono_l k
 unfold barscanref17_Codewords.f
 repeat' first
   | (with_reducible exact ih0 _ _)
   | (with_reducible exact ih1 _ _ _)
   | (with_reducible exact ih2 _ _ _)
   | (with_reducible exact LeO.refl _)
   | (with_reducible exact LeO.none _)
   | (with_reducible refine LeO.ite ?_ ?_)
   | (with_reducible refine LeO.bind ?_ (fun _ => ?_))
   | exact ih0 _ _
   | exact ih1 _ _ _
   | exact ih2 _ _ _
   | exact LeO.none _
   | refine LeO.ite ?_ ?_
   | refine LeO.bind ?_ (fun _ => ?_)
end Go.Proofs.Ytbbnagjfjgkgjaa.L
