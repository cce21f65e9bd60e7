-- Written by a program of this session out of the kit's print of the loaded functions (see wip/).
import Derived.Test.YtbbnagjfjgkgjaaKALx0
import Derived.Test.YtbbnagjfjgkgjaaKALx16
import Derived.Test.YtbbnagjfjgkgjaaKALx20
namespace Go.Proofs.Ytbbnagjfjgkgjaa.L
open Go.RowKit Go.Proofs.YtbbnagjfjgkgjaaW.PrintWords Go.Proofs.YtbbnagjfjgkgjaaW.PrintLast Go.Proofs.YtbbnagjfjgkgjaaW.PrintMore
attribute [local go_sem] max2_int min2_int max_two min_two max_three min_three max_four min_four   -- for this text's walks alone
set_option linter.unusedVariables false
set_option linter.unusedSimpArgs false

mutual
def barscanref20_Sign.j0 : Nat → Int → Int → Int → Bool → Int → Int → List Bool → Option (Int × Int × List Bool × Int)
 | 0, _, _, _, _, _, _, _ => none
 | k + 1, x1, x2, x8, x34, x373000, x373001, x373002 => if x34 = true then (some (0, 0, ([] : List Bool), 15)) else (if x2 < 0 then (barscanref20_Sign.j1 k x1 x2 x8 true x373000 x373001 x373002) else (barscanref20_Sign.j1 k x1 x2 x8 (decide (x2 > 7)) x373000 x373001 x373002))
def barscanref20_Sign.j1 : Nat → Int → Int → Int → Bool → Int → Int → List Bool → Option (Int × Int × List Bool × Int)
 | 0, _, _, _, _, _, _, _ => none
 | k + 1, x1, x2, x8, x41, x373000, x373001, x373002 => if x41 = true then (some (0, 0, ([] : List Bool), 3)) else ((barscanref20_Copy.f x373000 x373001 x373002).bind fun bt376 => ((barscanref08_Format.f k x1 x2).bind fun bt382 => ((barscanref08_Version.f k x8).bind fun bt384 => (barscanref20_Sign.l0 k x8 bt382.1 bt384.1 0 x373000 x373001 x373002 bt376.1 bt376.2.1 bt376.2.2))))
def barscanref20_Sign.l0 : Nat → Int → Int → Int → Int → Int → Int → List Bool → Int → Int → List Bool → Option (Int × Int × List Bool × Int)
 | 0, _, _, _, _, _, _, _, _, _, _ => none
 | k + 1, x8, x11, x13, x15, x373000, x373001, x373002, x382000, x382001, x382002 => if x15 < 2 then (barscanref20_Sign.l1 k x8 x11 x13 x15 0 x373000 x373001 x373002 x382000 x382001 x382002) else (some (x382000, x382001, x382002, 0))
def barscanref20_Sign.l1 : Nat → Int → Int → Int → Int → Int → Int → Int → List Bool → Int → Int → List Bool → Option (Int × Int × List Bool × Int)
 | 0, _, _, _, _, _, _, _, _, _, _, _ => none
 | k + 1, x8, x11, x13, x15, x16, x373000, x373001, x373002, x382000, x382001, x382002 => if x16 < 15 then ((barscanref20_FormatAt.f k x373000 x15 x16).bind fun bt386 => (if 0 ≤ (IntKind.u64.wrap (x16)) then (if 0 ≤ (wrap64 ((wrap64 (bt386.2 * x373000)) + bt386.1)) then (if (wrap64 ((wrap64 (bt386.2 * x373000)) + bt386.1)) < (x382002.length : Int) then (barscanref20_Sign.l1 k x8 x11 x13 x15 (wrap64 (x16 + 1)) x373000 x373001 x373002 x382000 x382001 (x382002.set ((wrap64 ((wrap64 (bt386.2 * x373000)) + bt386.1)) : Int).toNat ((Go.bits .and .i64 (shr .i64 x11 (IntKind.u64.wrap (x16))) 1) == 1))) else (none)) else (none)) else (none))) else (barscanref20_Sign.l2 k x8 x11 x13 x15 0 x373000 x373001 x373002 x382000 x382001 x382002)
def barscanref20_Sign.l2 : Nat → Int → Int → Int → Int → Int → Int → Int → List Bool → Int → Int → List Bool → Option (Int × Int × List Bool × Int)
 | 0, _, _, _, _, _, _, _, _, _, _, _ => none
 | k + 1, x8, x11, x13, x15, x18, x373000, x373001, x373002, x382000, x382001, x382002 => if x8 ≥ 7 then (if x18 < 18 then ((barscanref20_VersionAt.f x373000 x15 x18).bind fun bt390 => (if 0 ≤ (IntKind.u64.wrap (x18)) then (if 0 ≤ (wrap64 ((wrap64 (bt390.2 * x373000)) + bt390.1)) then (if (wrap64 ((wrap64 (bt390.2 * x373000)) + bt390.1)) < (x382002.length : Int) then (barscanref20_Sign.l2 k x8 x11 x13 x15 (wrap64 (x18 + 1)) x373000 x373001 x373002 x382000 x382001 (x382002.set ((wrap64 ((wrap64 (bt390.2 * x373000)) + bt390.1)) : Int).toNat ((Go.bits .and .i64 (shr .i64 x13 (IntKind.u64.wrap (x18))) 1) == 1))) else (none)) else (none)) else (none))) else (barscanref20_Sign.l0 k x8 x11 x13 (wrap64 (x15 + 1)) x373000 x373001 x373002 x382000 x382001 x382002)) else (barscanref20_Sign.l0 k x8 x11 x13 (wrap64 (x15 + 1)) x373000 x373001 x373002 x382000 x382001 x382002)
end
end Go.Proofs.Ytbbnagjfjgkgjaa.L
