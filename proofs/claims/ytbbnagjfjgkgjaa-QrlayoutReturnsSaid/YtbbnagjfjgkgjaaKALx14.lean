-- Written by a program of this session out of the kit's print of the loaded functions (see wip/).
import Derived.Test.YtbbnagjfjgkgjaaKALx0
import Derived.Test.YtbbnagjfjgkgjaaKALx13
namespace Go.Proofs.Ytbbnagjfjgkgjaa.L
open Go.RowKit Go.Proofs.YtbbnagjfjgkgjaaW.PrintWords Go.Proofs.YtbbnagjfjgkgjaaW.PrintLast Go.Proofs.YtbbnagjfjgkgjaaW.PrintMore
attribute [local go_sem] max2_int min2_int max_two min_two max_three min_three max_four min_four   -- for this text's walks alone
set_option linter.unusedVariables false
set_option linter.unusedSimpArgs false

mutual
def barscanref20_purpose.j0 : Nat → Int → Int → Int → Bool → Bool → Option (Int)
 | 0, _, _, _, _, _ => none
 | k + 1, x1, x2, x3, x11, x21 => if x21 = true then (some 2) else (if x11 = true then (some 4) else (if x2 = 6 then (barscanref20_purpose.j1 k x1 x2 x3 true) else (barscanref20_purpose.j1 k x1 x2 x3 (x3 == 6))))
def barscanref20_purpose.j1 : Nat → Int → Int → Int → Bool → Option (Int)
 | 0, _, _, _, _ => none
 | k + 1, x1, x2, x3, x50 => if x50 = true then (some 3) else (if x2 = 8 then (barscanref20_purpose.j2 k x1 x2 x3 (x3 == (wrap64 (x1 - 8)))) else (barscanref20_purpose.j2 k x1 x2 x3 false))
def barscanref20_purpose.j2 : Nat → Int → Int → Int → Bool → Option (Int)
 | 0, _, _, _, _ => none
 | k + 1, x1, x2, x3, x57 => if x57 = true then (some 7) else (if x3 = 8 then (if x2 ≤ 8 then (barscanref20_purpose.j3 k x1 x2 x3 true) else (if x2 ≥ (wrap64 (x1 - 8)) then (barscanref20_purpose.j3 k x1 x2 x3 true) else (if x2 = 8 then (if x3 ≤ 8 then (barscanref20_purpose.j3 k x1 x2 x3 true) else (barscanref20_purpose.j3 k x1 x2 x3 (decide (x3 ≥ (wrap64 (x1 - 7)))))) else (barscanref20_purpose.j3 k x1 x2 x3 false)))) else (if x2 = 8 then (if x3 ≤ 8 then (barscanref20_purpose.j3 k x1 x2 x3 true) else (barscanref20_purpose.j3 k x1 x2 x3 (decide (x3 ≥ (wrap64 (x1 - 7)))))) else (barscanref20_purpose.j3 k x1 x2 x3 false)))
def barscanref20_purpose.j3 : Nat → Int → Int → Int → Bool → Option (Int)
 | 0, _, _, _, _ => none
 | k + 1, x1, x2, x3, x66 => if x66 = true then (some 5) else (if x1 ≥ 45 then (if x2 ≥ (wrap64 (x1 - 11)) then (if x2 ≤ (wrap64 (x1 - 9)) then (if x3 ≤ 5 then (some 6) else (if x3 ≥ (wrap64 (x1 - 11)) then (if x3 ≤ (wrap64 (x1 - 9)) then (if x2 ≤ 5 then (some 6) else (some 1)) else (some 1)) else (some 1))) else (if x3 ≥ (wrap64 (x1 - 11)) then (if x3 ≤ (wrap64 (x1 - 9)) then (if x2 ≤ 5 then (some 6) else (some 1)) else (some 1)) else (some 1))) else (if x3 ≥ (wrap64 (x1 - 11)) then (if x3 ≤ (wrap64 (x1 - 9)) then (if x2 ≤ 5 then (some 6) else (some 1)) else (some 1)) else (some 1))) else (some 1))
end
def barscanref20_purpose.f (k : Nat) (l0 : List Int) (a1 : Int) (a2 : Int) (a3 : Int) : Option (Int) := (barscanref20_aligned.f k l0 a1 a2 a3).bind fun bt319 => (if a2 < 8 then (if a3 < 8 then (barscanref20_purpose.j0 k a1 a2 a3 bt319.2.2 true) else (if a2 ≥ (wrap64 (a1 - 8)) then (barscanref20_purpose.j0 k a1 a2 a3 bt319.2.2 (decide (a3 ≥ (wrap64 (a1 - 8))))) else (barscanref20_purpose.j0 k a1 a2 a3 bt319.2.2 (decide (a3 ≥ (wrap64 (a1 - 8))))))) else (if a2 ≥ (wrap64 (a1 - 8)) then (if a3 < 8 then (barscanref20_purpose.j0 k a1 a2 a3 bt319.2.2 true) else (barscanref20_purpose.j0 k a1 a2 a3 bt319.2.2 false)) else (barscanref20_purpose.j0 k a1 a2 a3 bt319.2.2 false)))
end Go.Proofs.Ytbbnagjfjgkgjaa.L
