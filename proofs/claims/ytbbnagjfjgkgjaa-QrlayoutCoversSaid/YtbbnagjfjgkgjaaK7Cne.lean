/- The same, part of the versions. -/
import Derived.Test.YtbbnagjfjgkgjaaK7Cna
import Derived.KernelRfl
namespace Go.Proofs.Ytbbnagjfjgkgjaa.Pure
open Go.Proofs.Ytbbnagjfjgkgjaa.L
set_option maxRecDepth 1000000
theorem cnt35 : Nat.beq (allN 35 157 [6, 30, 54, 78, 102, 126, 150] 157) 1000036000030001150000232000192023008000000 = true := by kernel_rfl
theorem cnt36 : Nat.beq (allN 36 161 [6, 24, 50, 76, 102, 128, 154] 161) 1000036000030001150000240000192024272000000 = true := by kernel_rfl
theorem cnt37 : Nat.beq (allN 37 165 [6, 28, 54, 80, 106, 132, 158] 165) 1000036000030001150000248000192025568000000 = true := by kernel_rfl
theorem cnt38 : Nat.beq (allN 38 169 [6, 32, 58, 84, 110, 136, 162] 169) 1000036000030001150000256000192026896000000 = true := by kernel_rfl
theorem cnt39 : Nat.beq (allN 39 173 [6, 26, 54, 82, 110, 138, 166] 173) 1000036000030001150000264000192028256000000 = true := by kernel_rfl
theorem cnt40 : Nat.beq (allN 40 177 [6, 30, 58, 86, 114, 142, 170] 177) 1000036000030001150000272000192029648000000 = true := by kernel_rfl
end Go.Proofs.Ytbbnagjfjgkgjaa.Pure
