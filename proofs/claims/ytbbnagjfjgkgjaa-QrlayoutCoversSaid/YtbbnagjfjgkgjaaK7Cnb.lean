/- The same, part of the versions. -/
import Derived.Test.YtbbnagjfjgkgjaaK7Cna
import Derived.KernelRfl
namespace Go.Proofs.Ytbbnagjfjgkgjaa.Pure
open Go.Proofs.Ytbbnagjfjgkgjaa.L
set_option maxRecDepth 1000000
theorem cnt1 : Nat.beq (allN 1 21 [] 21) 1000000000030000000000010000192000208000000 = true := by kernel_rfl
theorem cnt2 : Nat.beq (allN 2 25 [6, 18] 25) 1000000000030000025000018000192000359000000 = true := by kernel_rfl
theorem cnt3 : Nat.beq (allN 3 29 [6, 22] 29) 1000000000030000025000026000192000567000000 = true := by kernel_rfl
theorem cnt4 : Nat.beq (allN 4 33 [6, 26] 33) 1000000000030000025000034000192000807000000 = true := by kernel_rfl
theorem cnt5 : Nat.beq (allN 5 37 [6, 30] 37) 1000000000030000025000042000192001079000000 = true := by kernel_rfl
theorem cnt6 : Nat.beq (allN 6 41 [6, 34] 41) 1000000000030000025000050000192001383000000 = true := by kernel_rfl
theorem cnt7 : Nat.beq (allN 7 45 [6, 22, 38] 45) 1000036000030000150000048000192001568000000 = true := by kernel_rfl
theorem cnt8 : Nat.beq (allN 8 49 [6, 24, 42] 49) 1000036000030000150000056000192001936000000 = true := by kernel_rfl
theorem cnt9 : Nat.beq (allN 9 53 [6, 26, 46] 53) 1000036000030000150000064000192002336000000 = true := by kernel_rfl
theorem cnt10 : Nat.beq (allN 10 57 [6, 28, 50] 57) 1000036000030000150000072000192002768000000 = true := by kernel_rfl
theorem cnt11 : Nat.beq (allN 11 61 [6, 30, 54] 61) 1000036000030000150000080000192003232000000 = true := by kernel_rfl
theorem cnt12 : Nat.beq (allN 12 65 [6, 32, 58] 65) 1000036000030000150000088000192003728000000 = true := by kernel_rfl
theorem cnt13 : Nat.beq (allN 13 69 [6, 34, 62] 69) 1000036000030000150000096000192004256000000 = true := by kernel_rfl
theorem cnt14 : Nat.beq (allN 14 73 [6, 26, 46, 66] 73) 1000036000030000325000094000192004651000000 = true := by kernel_rfl
theorem cnt15 : Nat.beq (allN 15 77 [6, 26, 48, 70] 77) 1000036000030000325000102000192005243000000 = true := by kernel_rfl
theorem cnt16 : Nat.beq (allN 16 81 [6, 26, 50, 74] 81) 1000036000030000325000110000192005867000000 = true := by kernel_rfl
theorem cnt17 : Nat.beq (allN 17 85 [6, 30, 54, 78] 85) 1000036000030000325000118000192006523000000 = true := by kernel_rfl
theorem cnt18 : Nat.beq (allN 18 89 [6, 30, 56, 82] 89) 1000036000030000325000126000192007211000000 = true := by kernel_rfl
theorem cnt19 : Nat.beq (allN 19 93 [6, 30, 58, 86] 93) 1000036000030000325000134000192007931000000 = true := by kernel_rfl
theorem cnt20 : Nat.beq (allN 20 97 [6, 34, 62, 90] 97) 1000036000030000325000142000192008683000000 = true := by kernel_rfl
end Go.Proofs.Ytbbnagjfjgkgjaa.Pure
