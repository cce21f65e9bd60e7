-- Written by a program of this session out of the kit's print of the loaded functions (see wip/).
import Derived.Test.YtbbnagjfjgkgjaaK8Lx0
import Derived.Test.YtbbnagjfjgkgjaaK8Lx16
namespace Go.Proofs.Ytbbnagjfjgkgjaa.L
open Go.RowKit Go.Proofs.YtbbnagjfjgkgjaaW.PrintWords Go.Proofs.YtbbnagjfjgkgjaaW.PrintLast Go.Proofs.YtbbnagjfjgkgjaaW.PrintMore
attribute [local go_sem] max2_int min2_int max_two min_two max_three min_three max_four min_four   -- for this text's walks alone
set_option linter.unusedVariables false
set_option linter.unusedSimpArgs false

def barscanref08_codeword.f (k : Nat) (a0 : Int) (a1 : Int) : Option (Int) := (barscanref08_degree.f k a1).bind fun t364 => ((barscanref08_power.f k t364).bind fun t365 => ((barscanref08_remainder.f k (wrap64 (a0 * t365)) a1).bind fun t366 => (some (wrap64 ((wrap64 (a0 * t365)) + t366)))))
def barscanref08_Format.f (k : Nat) (a0 : Int) (a1 : Int) : Option (Int × Int) := if a0 = 1 then (if a1 < 0 then (some (0, 3)) else (if a1 > 7 then (some (0, 3)) else ((barscanref08_codeword.f k (wrap64 ((8 * 1) + a1)) 1335).bind fun t192 => (some (Go.bits .xor .i64 t192 21522, 0))))) else (if a0 = 2 then (if a1 < 0 then (some (0, 3)) else (if a1 > 7 then (some (0, 3)) else ((barscanref08_codeword.f k (wrap64 ((8 * 0) + a1)) 1335).bind fun t193 => (some (Go.bits .xor .i64 t193 21522, 0))))) else (if a0 = 3 then (if a1 < 0 then (some (0, 3)) else (if a1 > 7 then (some (0, 3)) else ((barscanref08_codeword.f k (wrap64 ((8 * 3) + a1)) 1335).bind fun t194 => (some (Go.bits .xor .i64 t194 21522, 0))))) else (if a0 = 4 then (if a1 < 0 then (some (0, 3)) else (if a1 > 7 then (some (0, 3)) else ((barscanref08_codeword.f k (wrap64 ((8 * 2) + a1)) 1335).bind fun t195 => (some (Go.bits .xor .i64 t195 21522, 0))))) else (some (0, 15)))))
def barscanref08_Version.f (k : Nat) (a0 : Int) : Option (Int × Int) := if a0 < 7 then (some (0, 14)) else (if a0 > 40 then (some (0, 14)) else ((barscanref08_codeword.f k a0 7973).bind fun t371 => (some (t371, 0))))
end Go.Proofs.Ytbbnagjfjgkgjaa.L
