-- Written by a program of this session out of the kit's print of the loaded functions (see wip/).
import Derived.Test.YtbbnagjfjgkgjaaKALx0
import Derived.Test.YtbbnagjfjgkgjaaKALx2
import Derived.Test.YtbbnagjfjgkgjaaKALx12
import Derived.Test.YtbbnagjfjgkgjaaKALx14
import Derived.Test.YtbbnagjfjgkgjaaKAPta
import Derived.Test.YtbbnagjfjgkgjaaKAAlv
namespace Go.Proofs.Ytbbnagjfjgkgjaa.L
open Go.RowKit Go.Proofs.YtbbnagjfjgkgjaaW.PrintWords Go.Proofs.YtbbnagjfjgkgjaaW.PrintLast Go.Proofs.YtbbnagjfjgkgjaaW.PrintMore
attribute [local go_sem] max2_int min2_int max_two min_two max_three min_three max_four min_four   -- for this text's walks alone
set_option linter.unusedVariables false
set_option linter.unusedSimpArgs false

def barscanref20_Cells.l0 : Nat → Int → List Int → List Int → Int → Option (List Int × Int)
 | 0, _, _, _, _ => none
 | k + 1, x4, x6, x8, x9 => if x9 < (wrap64 (x4 * x4)) then (if x4 = 0 then (none) else ((barscanref20_purpose.f k x6 x4 (Int.tmod x9 x4) (wrap64 (Int.tdiv x9 x4))).bind fun t331 => (if 0 ≤ x9 then (if x9 < (x8.length : Int) then (barscanref20_Cells.l0 k x4 x6 (x8.set (x9 : Int).toNat t331) (wrap64 (x9 + 1))) else (none)) else (none)))) else (some (x8, 0))
def barscanref20_Cells.f (k : Nat) (a0 : Int) : Option (List Int × Int) := (barscanref17_Size.f a0).bind fun bt322 => (if bt322.2 = 0 then ((barscanref17_Aligns.f k a0).bind fun bt324 => (if 0 ≤ (wrap64 (bt322.1 * bt322.1)) then (if (wrap64 (bt322.1 * bt322.1) : Int).toNat ≤ 35184372088832 then (barscanref20_Cells.l0 k bt322.1 bt324.1 (List.replicate (wrap64 (bt322.1 * bt322.1) : Int).toNat 0) 0) else (none)) else (none))) else (some (([] : List Int), bt322.2)))
mutual
def barscanref20_Path.l0 : Nat → List Int → Int → List (S45) → Bool → Int → Option ((List (S45)) × Int)
 | 0, _, _, _, _, _ => none
 | k + 1, x4, x6, x7, x8, x9 => if x9 > 0 then (if x9 = 6 then (barscanref20_Path.j1 k x4 x6 x7 x8 5) else (barscanref20_Path.j1 k x4 x6 x7 x8 x9)) else (some (x7, 0))
def barscanref20_Path.j1 : Nat → List Int → Int → List (S45) → Bool → Int → Option ((List (S45)) × Int)
 | 0, _, _, _, _, _ => none
 | k + 1, x4, x6, x7, x8, x9 => barscanref20_Path.l1 k x4 x6 x7 x8 x9 0
def barscanref20_Path.l1 : Nat → List Int → Int → List (S45) → Bool → Int → Int → Option ((List (S45)) × Int)
 | 0, _, _, _, _, _, _ => none
 | k + 1, x4, x6, x7, x8, x9, x10 => if x10 < x6 then (if x8 = true then (barscanref20_Path.j3 k x4 x6 x7 x8 x9 x10 (wrap64 ((wrap64 (x6 - 1)) - x10))) else (barscanref20_Path.j3 k x4 x6 x7 x8 x9 x10 x10)) else (barscanref20_Path.l0 k x4 x6 x7 (!x8) (wrap64 (x9 - 2)))
def barscanref20_Path.j3 : Nat → List Int → Int → List (S45) → Bool → Int → Int → Int → Option ((List (S45)) × Int)
 | 0, _, _, _, _, _, _, _ => none
 | k + 1, x4, x6, x7, x8, x9, x10, x11 => barscanref20_Path.l2 k x4 x6 x7 x8 x9 x10 x11 x9
def barscanref20_Path.l2 : Nat → List Int → Int → List (S45) → Bool → Int → Int → Int → Int → Option ((List (S45)) × Int)
 | 0, _, _, _, _, _, _, _, _ => none
 | k + 1, x4, x6, x7, x8, x9, x10, x11, x12 => if x12 ≥ (wrap64 (x9 - 1)) then (if 0 ≤ (wrap64 ((wrap64 (x11 * x6)) + x12)) then (if (wrap64 ((wrap64 (x11 * x6)) + x12)) < (x4.length : Int) then (if (rd x4 (wrap64 ((wrap64 (x11 * x6)) + x12))) = 1 then (if x7.length < 8796093022208 then (barscanref20_Path.l2 k x4 x6 (x7 ++ [(⟨x12, x11⟩ : S45)]) x8 x9 x10 x11 (wrap64 (x12 - 1))) else (none)) else (barscanref20_Path.l2 k x4 x6 x7 x8 x9 x10 x11 (wrap64 (x12 - 1)))) else (none)) else (none)) else (barscanref20_Path.l1 k x4 x6 x7 x8 x9 (wrap64 (x10 + 1)))
end
def barscanref20_Path.f (k : Nat) (a0 : Int) : Option ((List (S45)) × Int) := (barscanref20_Cells.f k a0).bind fun bt333 => (if bt333.2 = 0 then (barscanref20_Path.l0 k bt333.1 (wrap64 (17 + (wrap64 (4 * a0)))) ([] : List (S45)) true (wrap64 ((wrap64 (17 + (wrap64 (4 * a0)))) - 1))) else (some (([] : List (S45)), bt333.2)))
end Go.Proofs.Ytbbnagjfjgkgjaa.L
