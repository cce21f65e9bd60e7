-- Written by a program of this session out of the kit's print of the loaded functions (see wip/).
import Derived.Test.YtbbnagjfjgkgjaaK8Lx0
import Derived.Test.YtbbnagjfjgkgjaaK8Lx16
import Derived.Test.YtbbnagjfjgkgjaaK8Lx17
import Derived.Test.YtbbnagjfjgkgjaaK8Lx19
namespace Go.Proofs.Ytbbnagjfjgkgjaa.L
open Go.RowKit Go.Proofs.YtbbnagjfjgkgjaaW.PrintWords Go.Proofs.YtbbnagjfjgkgjaaW.PrintLast Go.Proofs.YtbbnagjfjgkgjaaW.PrintMore
attribute [local go_sem] max2_int min2_int max_two min_two max_three min_three max_four min_four   -- for this text's walks alone
set_option linter.unusedVariables false
set_option linter.unusedSimpArgs false

mutual
def barscanref08_ParseFormat.j0 : Nat → Int → Bool → Option (Int × Int × Int × Int)
 | 0, _, _ => none
 | k + 1, x0, x16 => if x16 = true then (some (0, 0, 0, 3)) else (barscanref08_ParseFormat.l0 k x0 1)
def barscanref08_ParseFormat.l0 : Nat → Int → Int → Option (Int × Int × Int × Int)
 | 0, _, _ => none
 | k + 1, x0, x6 => if x6 ≤ 4 then (barscanref08_ParseFormat.l1 k x0 x6 0) else (some (0, 0, 0, 21))
def barscanref08_ParseFormat.l1 : Nat → Int → Int → Int → Option (Int × Int × Int × Int)
 | 0, _, _, _ => none
 | k + 1, x0, x6, x7 => if x7 < 8 then ((barscanref08_Format.f k x6 x7).bind fun bt413 => ((barscanref08_Weight.f k (Go.bits .xor .i64 bt413.1 x0)).bind fun t415 => (if t415 ≤ 3 then (some (x6, x7, t415, 0)) else (barscanref08_ParseFormat.l1 k x0 x6 (wrap64 (x7 + 1)))))) else (barscanref08_ParseFormat.l0 k x0 (wrap64 (x6 + 1)))
end
def barscanref08_ParseFormat.f (k : Nat) (a0 : Int) : Option (Int × Int × Int × Int) := if a0 < 0 then (barscanref08_ParseFormat.j0 k a0 true) else (barscanref08_ParseFormat.j0 k a0 (decide (a0 ≥ 32768)))
mutual
def barscanref20_Read.j0 : Nat → Int → Int → Bool → Int → Int → List Bool → Option (Int × Int × Int × Int)
 | 0, _, _, _, _, _, _ => none
 | k + 1, x6, x7, x26, x417000, x417001, x417002 => if x26 = true then ((barscanref20_agrees.f k x417000 x417001 x417002 x6).bind fun t419 => (barscanref20_Read.j1 k x6 t419 x417000 x417001 x417002)) else (barscanref20_Read.j1 k x6 x7 x417000 x417001 x417002)
def barscanref20_Read.j1 : Nat → Int → Int → Int → Int → List Bool → Option (Int × Int × Int × Int)
 | 0, _, _, _, _, _ => none
 | k + 1, x6, x7, x417000, x417001, x417002 => if x7 = 0 then ((barscanref20_information.f k x417000 x417001 x417002 0 15).bind fun t420 => ((barscanref08_ParseFormat.f k t420).bind fun bt421 => ((barscanref20_information.f k x417000 x417001 x417002 1 15).bind fun t425 => ((barscanref08_ParseFormat.f k t425).bind fun bt426 => (if bt421.2.2.2 = 0 then (barscanref20_Read.j2 k x6 bt421.1 bt421.2.1 bt421.2.2.1 bt421.2.2.2 bt426.1 bt426.2.1 bt426.2.2.1 bt426.2.2.2 false) else (barscanref20_Read.j2 k x6 bt421.1 bt421.2.1 bt421.2.2.1 bt421.2.2.2 bt426.1 bt426.2.1 bt426.2.2.1 bt426.2.2.2 (bt426.2.2.2 != 0))))))) else (some (0, 0, 0, x7))
def barscanref20_Read.j2 : Nat → Int → Int → Int → Int → Int → Int → Int → Int → Int → Bool → Option (Int × Int × Int × Int)
 | 0, _, _, _, _, _, _, _, _, _, _ => none
 | k + 1, x6, x8, x9, x10, x11, x12, x13, x14, x15, x54 => if x54 = true then (some (0, 0, 0, 21)) else (if x11 = 0 then (if x15 = 0 then (if x14 < x10 then (some (x6, x12, x13, 0)) else (some (x6, x8, x9, 0))) else (some (x6, x8, x9, 0))) else (some (x6, x12, x13, 0)))
end
end Go.Proofs.Ytbbnagjfjgkgjaa.L
