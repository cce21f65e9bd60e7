-- Written by a program of this session out of the kit's print of the loaded functions (see wip/).
import Derived.Test.YtbbnagjfjgkgjaaKALx0
import Derived.Test.YtbbnagjfjgkgjaaKALx2
import Derived.Test.YtbbnagjfjgkgjaaKALx3
namespace Go.Proofs.Ytbbnagjfjgkgjaa.L
open Go.RowKit Go.Proofs.YtbbnagjfjgkgjaaW.PrintWords Go.Proofs.YtbbnagjfjgkgjaaW.PrintLast Go.Proofs.YtbbnagjfjgkgjaaW.PrintMore
attribute [local go_sem] max2_int min2_int max_two min_two max_three min_three max_four min_four   -- for this text's walks alone
set_option linter.unusedVariables false
set_option linter.unusedSimpArgs false

mutual
def qrlayout_Cells.l0 : Nat → List Int → Int → Int → Int → Int → List Int → Option (List Int × Int)
 | 0, _, _, _, _, _, _ => none
 | k + 1, x6, x18, x19, x486000, x486001, x486002 => if x19 < x18 then (qrlayout_Cells.l1 k x6 x19 x18 x19 x486001 0 x486000 x486001 x486002) else (some (x6, 0))
def qrlayout_Cells.l1 : Nat → List Int → Int → Int → Int → Int → Int → Int → Int → List Int → Option (List Int × Int)
 | 0, _, _, _, _, _, _, _, _, _ => none
 | k + 1, x6, x7, x18, x19, x23, x24, x486000, x486001, x486002 => if x24 < x23 then ((qrlayout_frame_cell.f k x486000 x486001 x486002 x24 x7).bind fun t486 => (if x6.length < 17592186044416 then (qrlayout_Cells.l1 k (x6 ++ [t486]) x7 x18 x19 x23 (wrap64 (x24 + 1)) x486000 x486001 x486002) else (none))) else (qrlayout_Cells.l0 k x6 x18 (wrap64 (x19 + 1)) x486000 x486001 x486002)
end
def qrlayout_Cells.f (k : Nat) (a0 : Int) : Option (List Int × Int) := (qrlayout_frameOf.f k a0).bind fun bt479 => (if bt479.2.2.2 = 0 then (qrlayout_Cells.l0 k ([] : List Int) bt479.2.1 0 bt479.1 bt479.2.1 bt479.2.2.1) else (some (([] : List Int), bt479.2.2.2)))
end Go.Proofs.Ytbbnagjfjgkgjaa.L
