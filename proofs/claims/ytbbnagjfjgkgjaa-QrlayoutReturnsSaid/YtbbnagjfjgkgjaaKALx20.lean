-- Written by a program of this session out of the kit's print of the loaded functions (see wip/).
import Derived.Test.YtbbnagjfjgkgjaaKALx0
import Derived.Test.YtbbnagjfjgkgjaaKALx16
namespace Go.Proofs.Ytbbnagjfjgkgjaa.L
open Go.RowKit Go.Proofs.YtbbnagjfjgkgjaaW.PrintWords Go.Proofs.YtbbnagjfjgkgjaaW.PrintLast Go.Proofs.YtbbnagjfjgkgjaaW.PrintMore
attribute [local go_sem] max2_int min2_int max_two min_two max_three min_three max_four min_four   -- for this text's walks alone
set_option linter.unusedVariables false
set_option linter.unusedSimpArgs false

def barscanref08_codeword.f (k : Nat) (a0 : Int) (a1 : Int) : Option (Int) := (barscanref08_degree.f k a1).bind fun t364 => ((barscanref08_power.f k t364).bind fun t365 => ((barscanref08_remainder.f k (wrap64 (a0 * t365)) a1).bind fun t366 => (some (wrap64 ((wrap64 (a0 * t365)) + t366)))))
def barscanref08_Format.f (k : Nat) (a0 : Int) (a1 : Int) : Option (Int × Int) := if a0 = 1 then (if a1 < 0 then (some (0, 3)) else (if a1 > 7 then (some (0, 3)) else ((barscanref08_codeword.f k (wrap64 ((8 * 1) + a1)) 1335).bind fun t192 => (some (Go.bits .xor .i64 t192 21522, 0))))) else (if a0 = 2 then (if a1 < 0 then (some (0, 3)) else (if a1 > 7 then (some (0, 3)) else ((barscanref08_codeword.f k (wrap64 ((8 * 0) + a1)) 1335).bind fun t193 => (some (Go.bits .xor .i64 t193 21522, 0))))) else (if a0 = 3 then (if a1 < 0 then (some (0, 3)) else (if a1 > 7 then (some (0, 3)) else ((barscanref08_codeword.f k (wrap64 ((8 * 3) + a1)) 1335).bind fun t194 => (some (Go.bits .xor .i64 t194 21522, 0))))) else (if a0 = 4 then (if a1 < 0 then (some (0, 3)) else (if a1 > 7 then (some (0, 3)) else ((barscanref08_codeword.f k (wrap64 ((8 * 2) + a1)) 1335).bind fun t195 => (some (Go.bits .xor .i64 t195 21522, 0))))) else (some (0, 15)))))
def barscanref08_Version.f (k : Nat) (a0 : Int) : Option (Int × Int) := if a0 < 7 then (some (0, 14)) else (if a0 > 40 then (some (0, 14)) else ((barscanref08_codeword.f k a0 7973).bind fun t371 => (some (t371, 0))))
end Go.Proofs.Ytbbnagjfjgkgjaa.L

-- Written by a program of this session out of the kit's print of the loaded functions (see wip/).
namespace Go.Proofs.Ytbbnagjfjgkgjaa.L
open Go.RowKit Go.Proofs.YtbbnagjfjgkgjaaW.PrintWords Go.Proofs.YtbbnagjfjgkgjaaW.PrintLast Go.Proofs.YtbbnagjfjgkgjaaW.PrintMore
attribute [local go_sem] max2_int min2_int max_two min_two max_three min_three max_four min_four   -- for this text's walks alone
set_option linter.unusedVariables false
set_option linter.unusedSimpArgs false

def barscanref20_information.l0 : Nat → Int → Int → Int → Int → Int → Int → List Bool → Option (Int)
 | 0, _, _, _, _, _, _, _ => none
 | k + 1, x1, x2, x7, x8, x395000, x395001, x395002 => if x8 ≥ 0 then ((barscanref20_FormatAt.f k x395000 x1 (Int.tmod x8 15)).bind fun bt395 => (if x2 = 18 then ((barscanref20_VersionAt.f x395000 x1 x8).bind fun bt398 => (if 0 ≤ (wrap64 ((wrap64 (bt398.2 * x395000)) + bt398.1)) then (if (wrap64 ((wrap64 (bt398.2 * x395000)) + bt398.1)) < (x395002.length : Int) then (if rdOf false x395002 (wrap64 ((wrap64 (bt398.2 * x395000)) + bt398.1)) = true then (barscanref20_information.l0 k x1 x2 (wrap64 ((wrap64 (2 * x7)) + 1)) (wrap64 (x8 - 1)) x395000 x395001 x395002) else (barscanref20_information.l0 k x1 x2 (wrap64 (2 * x7)) (wrap64 (x8 - 1)) x395000 x395001 x395002)) else (none)) else (none))) else (if 0 ≤ (wrap64 ((wrap64 (bt395.2 * x395000)) + bt395.1)) then (if (wrap64 ((wrap64 (bt395.2 * x395000)) + bt395.1)) < (x395002.length : Int) then (if rdOf false x395002 (wrap64 ((wrap64 (bt395.2 * x395000)) + bt395.1)) = true then (barscanref20_information.l0 k x1 x2 (wrap64 ((wrap64 (2 * x7)) + 1)) (wrap64 (x8 - 1)) x395000 x395001 x395002) else (barscanref20_information.l0 k x1 x2 (wrap64 (2 * x7)) (wrap64 (x8 - 1)) x395000 x395001 x395002)) else (none)) else (none)))) else (some x7)
def barscanref20_information.f (k : Nat) (a0_0 : Int) (a0_1 : Int) (l0_2 : List Bool) (a1 : Int) (a2 : Int) : Option (Int) := barscanref20_information.l0 k a1 a2 0 (wrap64 (a2 - 1)) a0_0 a0_1 l0_2
def barscanref08_Weight.l0 : Nat → Int → Int → Option (Int)
 | 0, _, _ => none
 | k + 1, x0, x3 => if x0 > 0 then (barscanref08_Weight.l0 k (wrap64 (Int.tdiv x0 2)) (wrap64 (x3 + (Int.tmod x0 2)))) else (some x3)
def barscanref08_Weight.f (k : Nat) (a0 : Int) : Option (Int) := barscanref08_Weight.l0 k a0 0
mutual
def barscanref08_ParseVersion.j0 : Nat → Int → Bool → Option (Int × Int × Int)
 | 0, _, _ => none
 | k + 1, x0, x12 => if x12 = true then (some (0, 0, 3)) else (barscanref08_ParseVersion.l0 k x0 0)
def barscanref08_ParseVersion.l0 : Nat → Int → Int → Option (Int × Int × Int)
 | 0, _, _ => none
 | k + 1, x0, x5 => if x5 < 64 then ((barscanref08_codeword.f k x5 7973).bind fun t402 => ((barscanref08_Weight.f k (Go.bits .xor .i64 t402 x0)).bind fun t403 => (if t403 ≤ 3 then (if x5 < 7 then (barscanref08_ParseVersion.j2 k x0 x5 t403 true) else (barscanref08_ParseVersion.j2 k x0 x5 t403 (decide (x5 > 40)))) else (barscanref08_ParseVersion.j2 k x0 x5 t403 false)))) else (some (0, 0, 21))
def barscanref08_ParseVersion.j2 : Nat → Int → Int → Int → Bool → Option (Int × Int × Int)
 | 0, _, _, _, _ => none
 | k + 1, x0, x5, x6, x31 => if x31 = true then (some (0, 0, 14)) else (if x6 ≤ 3 then (some (x5, x6, 0)) else (barscanref08_ParseVersion.l0 k x0 (wrap64 (x5 + 1))))
end
def barscanref08_ParseVersion.f (k : Nat) (a0 : Int) : Option (Int × Int × Int) := if a0 < 0 then (barscanref08_ParseVersion.j0 k a0 true) else (barscanref08_ParseVersion.j0 k a0 (decide (a0 ≥ 262144)))
mutual
def barscanref20_agrees.j0 : Nat → Int → Int → Int → Int → Int → Int → Int → Bool → Option (Int)
 | 0, _, _, _, _, _, _, _, _ => none
 | k + 1, x1, x5, x6, x7, x8, x9, x10, x30 => if x30 = true then (some 21) else (if x7 = 0 then (if x10 = 0 then (barscanref20_agrees.j1 k x1 x5 x8 (decide (x9 < x6))) else (barscanref20_agrees.j1 k x1 x5 x8 false)) else (barscanref20_agrees.j1 k x1 x5 x8 true))
def barscanref20_agrees.j1 : Nat → Int → Int → Int → Bool → Option (Int)
 | 0, _, _, _, _ => none
 | k + 1, x1, x5, x8, x41 => if x41 = true then (if x8 = x1 then (some 0) else (some 14)) else (if x5 = x1 then (some 0) else (some 14))
end
def barscanref20_agrees.f (k : Nat) (a0_0 : Int) (a0_1 : Int) (l0_2 : List Bool) (a1 : Int) : Option (Int) := (barscanref20_information.f k a0_0 a0_1 l0_2 0 18).bind fun t405 => ((barscanref08_ParseVersion.f k t405).bind fun bt406 => ((barscanref20_information.f k a0_0 a0_1 l0_2 1 18).bind fun t409 => ((barscanref08_ParseVersion.f k t409).bind fun bt410 => (if bt406.2.2 = 0 then (barscanref20_agrees.j0 k a1 bt406.1 bt406.2.1 bt406.2.2 bt410.1 bt410.2.1 bt410.2.2 false) else (barscanref20_agrees.j0 k a1 bt406.1 bt406.2.1 bt406.2.2 bt410.1 bt410.2.1 bt410.2.2 (bt410.2.2 != 0))))))
end Go.Proofs.Ytbbnagjfjgkgjaa.L

-- Written by a program of this session out of the kit's print of the loaded functions (see wip/).
namespace Go.Proofs.Ytbbnagjfjgkgjaa.L
open Go.RowKit Go.Proofs.YtbbnagjfjgkgjaaW.PrintWords Go.Proofs.YtbbnagjfjgkgjaaW.PrintLast Go.Proofs.YtbbnagjfjgkgjaaW.PrintMore
attribute [local go_sem] max2_int min2_int max_two min_two max_three min_three max_four min_four   -- for this text's walks alone
set_option linter.unusedVariables false
set_option linter.unusedSimpArgs false

mutual
def barscanref08_ParseFormat.j0 : Nat → Int → Bool → Option (Int × Int × Int × Int)
 | 0, _, _ => none
 | k + 1, x0, x16 => if x16 = true then (some (0, 0, 0, 3)) else (barscanref08_ParseFormat.l0 k x0 1)
def barscanref08_ParseFormat.l0 : Nat → Int → Int → Option (Int × Int × Int × Int)
 | 0, _, _ => none
 | k + 1, x0, x6 => if x6 ≤ 4 then (barscanref08_ParseFormat.l1 k x0 x6 0) else (some (0, 0, 0, 21))
def barscanref08_ParseFormat.l1 : Nat → Int → Int → Int → Option (Int × Int × Int × Int)
 | 0, _, _, _ => none
 | k + 1, x0, x6, x7 => if x7 < 8 then ((barscanref08_Format.f k x6 x7).bind fun bt413 => ((barscanref08_Weight.f k (Go.bits .xor .i64 bt413.1 x0)).bind fun t415 => (if t415 ≤ 3 then (some (x6, x7, t415, 0)) else (barscanref08_ParseFormat.l1 k x0 x6 (wrap64 (x7 + 1)))))) else (barscanref08_ParseFormat.l0 k x0 (wrap64 (x6 + 1)))
end
def barscanref08_ParseFormat.f (k : Nat) (a0 : Int) : Option (Int × Int × Int × Int) := if a0 < 0 then (barscanref08_ParseFormat.j0 k a0 true) else (barscanref08_ParseFormat.j0 k a0 (decide (a0 ≥ 32768)))
mutual
def barscanref20_Read.j0 : Nat → Int → Int → Bool → Int → Int → List Bool → Option (Int × Int × Int × Int)
 | 0, _, _, _, _, _, _ => none
 | k + 1, x6, x7, x26, x417000, x417001, x417002 => if x26 = true then ((barscanref20_agrees.f k x417000 x417001 x417002 x6).bind fun t419 => (barscanref20_Read.j1 k x6 t419 x417000 x417001 x417002)) else (barscanref20_Read.j1 k x6 x7 x417000 x417001 x417002)
def barscanref20_Read.j1 : Nat → Int → Int → Int → Int → List Bool → Option (Int × Int × Int × Int)
 | 0, _, _, _, _, _ => none
 | k + 1, x6, x7, x417000, x417001, x417002 => if x7 = 0 then ((barscanref20_information.f k x417000 x417001 x417002 0 15).bind fun t420 => ((barscanref08_ParseFormat.f k t420).bind fun bt421 => ((barscanref20_information.f k x417000 x417001 x417002 1 15).bind fun t425 => ((barscanref08_ParseFormat.f k t425).bind fun bt426 => (if bt421.2.2.2 = 0 then (barscanref20_Read.j2 k x6 bt421.1 bt421.2.1 bt421.2.2.1 bt421.2.2.2 bt426.1 bt426.2.1 bt426.2.2.1 bt426.2.2.2 false) else (barscanref20_Read.j2 k x6 bt421.1 bt421.2.1 bt421.2.2.1 bt421.2.2.2 bt426.1 bt426.2.1 bt426.2.2.1 bt426.2.2.2 (bt426.2.2.2 != 0))))))) else (some (0, 0, 0, x7))
def barscanref20_Read.j2 : Nat → Int → Int → Int → Int → Int → Int → Int → Int → Int → Bool → Option (Int × Int × Int × Int)
 | 0, _, _, _, _, _, _, _, _, _, _ => none
 | k + 1, x6, x8, x9, x10, x11, x12, x13, x14, x15, x54 => if x54 = true then (some (0, 0, 0, 21)) else (if x11 = 0 then (if x15 = 0 then (if x14 < x10 then (some (x6, x12, x13, 0)) else (some (x6, x8, x9, 0))) else (some (x6, x8, x9, 0))) else (some (x6, x12, x13, 0)))
end
end Go.Proofs.Ytbbnagjfjgkgjaa.L
