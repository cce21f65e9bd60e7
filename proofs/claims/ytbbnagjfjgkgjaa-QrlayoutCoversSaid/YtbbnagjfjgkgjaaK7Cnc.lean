/- The same, part of the versions. -/
import Derived.Test.YtbbnagjfjgkgjaaK7Cna
import Derived.KernelRfl
namespace Go.Proofs.Ytbbnagjfjgkgjaa.Pure
open Go.Proofs.Ytbbnagjfjgkgjaa.L
set_option maxRecDepth 1000000
theorem cnt21 : Nat.beq (allN 21 101 [6, 28, 50, 72, 94] 101) 1000036000030000550000140000192009252000000 = true := by kernel_rfl
theorem cnt22 : Nat.beq (allN 22 105 [6, 26, 50, 74, 98] 105) 1000036000030000550000148000192010068000000 = true := by kernel_rfl
theorem cnt23 : Nat.beq (allN 23 109 [6, 30, 54, 78, 102] 109) 1000036000030000550000156000192010916000000 = true := by kernel_rfl
theorem cnt24 : Nat.beq (allN 24 113 [6, 28, 54, 80, 106] 113) 1000036000030000550000164000192011796000000 = true := by kernel_rfl
theorem cnt25 : Nat.beq (allN 25 117 [6, 32, 58, 84, 110] 117) 1000036000030000550000172000192012708000000 = true := by kernel_rfl
theorem cnt26 : Nat.beq (allN 26 121 [6, 30, 58, 86, 114] 121) 1000036000030000550000180000192013652000000 = true := by kernel_rfl
theorem cnt27 : Nat.beq (allN 27 125 [6, 34, 62, 90, 118] 125) 1000036000030000550000188000192014628000000 = true := by kernel_rfl
theorem cnt28 : Nat.beq (allN 28 129 [6, 26, 50, 74, 98, 122] 129) 1000036000030000825000186000192015371000000 = true := by kernel_rfl
end Go.Proofs.Ytbbnagjfjgkgjaa.Pure
