-- Written by a program of this session out of the kit's print of the loaded functions (see wip/).
import Derived.Test.YtbbnagjfjgkgjaaKALx0
import Derived.Test.YtbbnagjfjgkgjaaKALx2
import Derived.Test.YtbbnagjfjgkgjaaKALx12
import Derived.Test.YtbbnagjfjgkgjaaKALx14
import Derived.Test.YtbbnagjfjgkgjaaKALx15
import Derived.Test.YtbbnagjfjgkgjaaKALx16
import Derived.Test.YtbbnagjfjgkgjaaKALv0
import Derived.Test.YtbbnagjfjgkgjaaKALf0
namespace Go.Proofs.Ytbbnagjfjgkgjaa.L
open Go.RowKit Go.Proofs.YtbbnagjfjgkgjaaW.PrintWords Go.Proofs.YtbbnagjfjgkgjaaW.PrintLast Go.Proofs.YtbbnagjfjgkgjaaW.PrintMore
attribute [local go_sem] max2_int min2_int max_two min_two max_three min_three max_four min_four   -- for this text's walks alone
set_option linter.unusedVariables false
set_option linter.unusedSimpArgs false

def barscanref20_Fill.l0 : Nat → List Bool → List (S45) → Int → Int → Int → List Bool → Int → Int → List Bool → Option (Int × Int × List Bool × Int)
 | 0, _, _, _, _, _, _, _, _, _ => none
 | k + 1, x11, x14, x16, x236000, x236001, x236002, x252000, x252001, x252002 => if x16 < (x14.length : Int) then (if 0 ≤ x16 then (if x16 < (x11.length : Int) then (if 0 ≤ (wrap64 ((wrap64 (((rd_T45 x14 x16).f1) * x236000)) + ((rd_T45 x14 x16).f0))) then (if (wrap64 ((wrap64 (((rd_T45 x14 x16).f1) * x236000)) + ((rd_T45 x14 x16).f0))) < (x252002.length : Int) then (barscanref20_Fill.l0 k x11 x14 (wrap64 (x16 + 1)) x236000 x236001 x236002 x252000 x252001 (x252002.set ((wrap64 ((wrap64 (((rd_T45 x14 x16).f1) * x236000)) + ((rd_T45 x14 x16).f0))) : Int).toNat (rdOf false x11 x16))) else (none)) else (none)) else (if 0 ≤ (wrap64 ((wrap64 (((rd_T45 x14 x16).f1) * x236000)) + ((rd_T45 x14 x16).f0))) then (if (wrap64 ((wrap64 (((rd_T45 x14 x16).f1) * x236000)) + ((rd_T45 x14 x16).f0))) < (x252002.length : Int) then (barscanref20_Fill.l0 k x11 x14 (wrap64 (x16 + 1)) x236000 x236001 x236002 x252000 x252001 (x252002.set ((wrap64 ((wrap64 (((rd_T45 x14 x16).f1) * x236000)) + ((rd_T45 x14 x16).f0))) : Int).toNat false)) else (none)) else (none))) else (none)) else (some (x252000, x252001, x252002, 0))
def barscanref20_Fill.f (k : Nat) (a0_0 : Int) (a0_1 : Int) (l0_2 : List Bool) (l1 : List Int) : Option (Int × Int × List Bool × Int) := (barscanref20_Version.f a0_0 a0_1 l0_2).bind fun bt237 => (if bt237.2 = 0 then ((barscanref17_Codewords.f k bt237.1).bind fun bt239 => (if (l1.length : Int) = bt239.1 then ((barscanref01_FromWords.f k l1 8).bind fun bt242 => (if bt242.2 = 0 then ((barscanref20_Copy.f a0_0 a0_1 l0_2).bind fun bt246 => ((barscanref20_Path.f k bt237.1).bind fun bt252 => (barscanref20_Fill.l0 k bt242.1 bt252.1 0 a0_0 a0_1 l0_2 bt246.1 bt246.2.1 bt246.2.2))) else (some (0, 0, ([] : List Bool), bt242.2)))) else (some (0, 0, ([] : List Bool), 7)))) else (some (0, 0, ([] : List Bool), bt237.2)))
def barscanref20_Extract.l0 : Nat → Int → List (S45) → List Bool → Int → Int → Int → List Bool → Option (List Int × Int)
 | 0, _, _, _, _, _, _, _ => none
 | k + 1, x6, x9, x11, x12, x268000, x268001, x268002 => if x12 < (wrap64 (8 * x6)) then (if 0 ≤ x12 then (if x12 < (x9.length : Int) then (if 0 ≤ (wrap64 ((wrap64 (((rd_T45 x9 x12).f1) * x268000)) + ((rd_T45 x9 x12).f0))) then (if (wrap64 ((wrap64 (((rd_T45 x9 x12).f1) * x268000)) + ((rd_T45 x9 x12).f0))) < (x268002.length : Int) then (if x11.length < 140737488355328 then (barscanref20_Extract.l0 k x6 x9 (x11 ++ [rdOf false x268002 (wrap64 ((wrap64 (((rd_T45 x9 x12).f1) * x268000)) + ((rd_T45 x9 x12).f0)))]) (wrap64 (x12 + 1)) x268000 x268001 x268002) else (none)) else (none)) else (none)) else (none)) else (none)) else ((barscanref01_Words.f k x11 8 false).bind fun bt283 => (some (bt283.1, bt283.2)))
def barscanref20_Extract.f (k : Nat) (a0_0 : Int) (a0_1 : Int) (l0_2 : List Bool) : Option (List Int × Int) := (barscanref20_Version.f a0_0 a0_1 l0_2).bind fun bt268 => (if bt268.2 = 0 then ((barscanref17_Codewords.f k bt268.1).bind fun bt270 => ((barscanref20_Path.f k bt268.1).bind fun bt273 => (barscanref20_Extract.l0 k bt270.1 bt273.1 ([] : List Bool) 0 a0_0 a0_1 l0_2))) else (some (([] : List Int), bt268.2)))
end Go.Proofs.Ytbbnagjfjgkgjaa.L
