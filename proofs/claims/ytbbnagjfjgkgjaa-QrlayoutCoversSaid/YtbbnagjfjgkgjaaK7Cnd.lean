/- The same, part of the versions. -/
import Derived.Test.YtbbnagjfjgkgjaaK7Cna
import Derived.KernelRfl
namespace Go.Proofs.Ytbbnagjfjgkgjaa.Pure
open Go.Proofs.Ytbbnagjfjgkgjaa.L
set_option maxRecDepth 1000000
theorem cnt29 : Nat.beq (allN 29 133 [6, 30, 54, 78, 102, 126] 133) 1000036000030000825000194000192016411000000 = true := by kernel_rfl
theorem cnt30 : Nat.beq (allN 30 137 [6, 26, 52, 78, 104, 130] 137) 1000036000030000825000202000192017483000000 = true := by kernel_rfl
theorem cnt31 : Nat.beq (allN 31 141 [6, 30, 56, 82, 108, 134] 141) 1000036000030000825000210000192018587000000 = true := by kernel_rfl
theorem cnt32 : Nat.beq (allN 32 145 [6, 34, 60, 86, 112, 138] 145) 1000036000030000825000218000192019723000000 = true := by kernel_rfl
theorem cnt33 : Nat.beq (allN 33 149 [6, 30, 58, 86, 114, 142] 149) 1000036000030000825000226000192020891000000 = true := by kernel_rfl
theorem cnt34 : Nat.beq (allN 34 153 [6, 34, 62, 90, 118, 146] 153) 1000036000030000825000234000192022091000000 = true := by kernel_rfl
end Go.Proofs.Ytbbnagjfjgkgjaa.Pure
