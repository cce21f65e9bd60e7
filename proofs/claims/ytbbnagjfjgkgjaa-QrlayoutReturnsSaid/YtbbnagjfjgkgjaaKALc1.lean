-- Written by a program of this session out of the kit's print of the loaded functions (see wip/).
import Derived.Test.YtbbnagjfjgkgjaaKALx0
import Derived.Test.YtbbnagjfjgkgjaaKALx1
import Derived.Test.YtbbnagjfjgkgjaaKALx15
import Derived.Test.YtbbnagjfjgkgjaaKALc0
namespace Go.Proofs.Ytbbnagjfjgkgjaa.L
open Go.RowKit Go.Proofs.YtbbnagjfjgkgjaaW.PrintWords Go.Proofs.YtbbnagjfjgkgjaaW.PrintLast Go.Proofs.YtbbnagjfjgkgjaaW.PrintMore
attribute [local go_sem] max2_int min2_int max_two min_two max_three min_three max_four min_four   -- for this text's walks alone
set_option linter.unusedVariables false
set_option linter.unusedSimpArgs false

attribute [local go_sem high] eqA45
mutual
def barscanlaw20_QrlayoutCells.j0 : Nat → List Int → List Int → Bool → Option (Bool)
 | 0, _, _, _ => none
 | k + 1, x3, x5, x52 => if x52 = true then (some false) else (barscanlaw20_QrlayoutCells.l0 k x3 x5 (x3.length : Int) 0)
def barscanlaw20_QrlayoutCells.l0 : Nat → List Int → List Int → Int → Int → Option (Bool)
 | 0, _, _, _, _ => none
 | k + 1, x3, x5, x54, x55 => if x55 < x54 then (if 0 ≤ x55 then (if x55 < (x3.length : Int) then (if x55 < (x5.length : Int) then (if (rd x3 x55) = (rd x5 x55) then (barscanlaw20_QrlayoutCells.l0 k x3 x5 x54 (wrap64 (x55 + 1))) else (some false)) else (none)) else (none)) else (none)) else ((barscanlaw20_alive.f).bind fun t511 => (some t511))
end
end Go.Proofs.Ytbbnagjfjgkgjaa.L
