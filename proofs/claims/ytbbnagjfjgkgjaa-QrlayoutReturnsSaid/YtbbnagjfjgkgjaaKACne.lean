/- How many modules of each purpose: told by the kernel, version by version. -/
import Derived.Test.YtbbnagjfjgkgjaaKAPsz
import Derived.KernelRfl
namespace Go.Proofs.Ytbbnagjfjgkgjaa.Pure
open Go.Proofs.Ytbbnagjfjgkgjaa.L
def alN (s : Nat) (x b : Nat) : List Nat → Bool
  | [] => false
  | a :: r => (Nat.ble a (x + 2) && Nat.ble x (a + 2) && !((Nat.beq a 6 && (Nat.beq b 6 || Nat.beq b (s - 7))) || (Nat.beq b 6 && Nat.beq a (s - 7)))) || alN s x b r
def nearN (y : Nat) : List Nat → Nat
  | [] => 0
  | b :: r => if (Nat.ble b (y + 2) && Nat.ble y (b + 2)) = true then b else nearN y r
def cellN (v s b : Nat) (l : List Nat) (y x : Nat) : Nat :=
  cond ((Nat.ble x 7 && Nat.ble y 7) || (Nat.ble (s - 8) x && Nat.ble y 7) || (Nat.ble x 7 && Nat.ble (s - 8) y)) 2
    (cond (cond (Nat.beq b 0) false (alN s x b l)) 4
      (cond (Nat.beq x 6 || Nat.beq y 6) 3
        (cond (Nat.beq x 8 && Nat.beq y (s - 8)) 7
          (cond ((Nat.beq y 8 && (Nat.ble x 8 || Nat.ble (s - 8) x)) || (Nat.beq x 8 && (Nat.ble y 8 || Nat.ble (s - 7) y))) 5
            (cond (Nat.ble 7 v && ((Nat.ble (s - 11) x && Nat.ble x (s - 9) && Nat.ble y 5) || (Nat.ble (s - 11) y && Nat.ble y (s - 9) && Nat.ble x 5))) 6 1)))))
def rowN (f : Nat → Nat) : Nat → Nat
  | 0 => 0
  | n + 1 => 1000000 ^ f n + rowN f n
def allN (v s : Nat) (l : List Nat) : Nat → Nat
  | 0 => 0
  | y + 1 => rowN (cellN v s (nearN y l) l y) s + allN v s l y
end Go.Proofs.Ytbbnagjfjgkgjaa.Pure

/- The same, part of the versions. -/
namespace Go.Proofs.Ytbbnagjfjgkgjaa.Pure
open Go.Proofs.Ytbbnagjfjgkgjaa.L
set_option maxRecDepth 1000000
theorem cnt1 : Nat.beq (allN 1 21 [] 21) 1000000000030000000000010000192000208000000 = true := by kernel_rfl
theorem cnt2 : Nat.beq (allN 2 25 [6, 18] 25) 1000000000030000025000018000192000359000000 = true := by kernel_rfl
theorem cnt3 : Nat.beq (allN 3 29 [6, 22] 29) 1000000000030000025000026000192000567000000 = true := by kernel_rfl
theorem cnt4 : Nat.beq (allN 4 33 [6, 26] 33) 1000000000030000025000034000192000807000000 = true := by kernel_rfl
theorem cnt5 : Nat.beq (allN 5 37 [6, 30] 37) 1000000000030000025000042000192001079000000 = true := by kernel_rfl
theorem cnt6 : Nat.beq (allN 6 41 [6, 34] 41) 1000000000030000025000050000192001383000000 = true := by kernel_rfl
theorem cnt7 : Nat.beq (allN 7 45 [6, 22, 38] 45) 1000036000030000150000048000192001568000000 = true := by kernel_rfl
theorem cnt8 : Nat.beq (allN 8 49 [6, 24, 42] 49) 1000036000030000150000056000192001936000000 = true := by kernel_rfl
theorem cnt9 : Nat.beq (allN 9 53 [6, 26, 46] 53) 1000036000030000150000064000192002336000000 = true := by kernel_rfl
theorem cnt10 : Nat.beq (allN 10 57 [6, 28, 50] 57) 1000036000030000150000072000192002768000000 = true := by kernel_rfl
theorem cnt11 : Nat.beq (allN 11 61 [6, 30, 54] 61) 1000036000030000150000080000192003232000000 = true := by kernel_rfl
theorem cnt12 : Nat.beq (allN 12 65 [6, 32, 58] 65) 1000036000030000150000088000192003728000000 = true := by kernel_rfl
theorem cnt13 : Nat.beq (allN 13 69 [6, 34, 62] 69) 1000036000030000150000096000192004256000000 = true := by kernel_rfl
theorem cnt14 : Nat.beq (allN 14 73 [6, 26, 46, 66] 73) 1000036000030000325000094000192004651000000 = true := by kernel_rfl
theorem cnt15 : Nat.beq (allN 15 77 [6, 26, 48, 70] 77) 1000036000030000325000102000192005243000000 = true := by kernel_rfl
theorem cnt16 : Nat.beq (allN 16 81 [6, 26, 50, 74] 81) 1000036000030000325000110000192005867000000 = true := by kernel_rfl
theorem cnt17 : Nat.beq (allN 17 85 [6, 30, 54, 78] 85) 1000036000030000325000118000192006523000000 = true := by kernel_rfl
theorem cnt18 : Nat.beq (allN 18 89 [6, 30, 56, 82] 89) 1000036000030000325000126000192007211000000 = true := by kernel_rfl
theorem cnt19 : Nat.beq (allN 19 93 [6, 30, 58, 86] 93) 1000036000030000325000134000192007931000000 = true := by kernel_rfl
theorem cnt20 : Nat.beq (allN 20 97 [6, 34, 62, 90] 97) 1000036000030000325000142000192008683000000 = true := by kernel_rfl
end Go.Proofs.Ytbbnagjfjgkgjaa.Pure

/- The same, part of the versions. -/
namespace Go.Proofs.Ytbbnagjfjgkgjaa.Pure
open Go.Proofs.Ytbbnagjfjgkgjaa.L
set_option maxRecDepth 1000000
theorem cnt21 : Nat.beq (allN 21 101 [6, 28, 50, 72, 94] 101) 1000036000030000550000140000192009252000000 = true := by kernel_rfl
theorem cnt22 : Nat.beq (allN 22 105 [6, 26, 50, 74, 98] 105) 1000036000030000550000148000192010068000000 = true := by kernel_rfl
theorem cnt23 : Nat.beq (allN 23 109 [6, 30, 54, 78, 102] 109) 1000036000030000550000156000192010916000000 = true := by kernel_rfl
theorem cnt24 : Nat.beq (allN 24 113 [6, 28, 54, 80, 106] 113) 1000036000030000550000164000192011796000000 = true := by kernel_rfl
theorem cnt25 : Nat.beq (allN 25 117 [6, 32, 58, 84, 110] 117) 1000036000030000550000172000192012708000000 = true := by kernel_rfl
theorem cnt26 : Nat.beq (allN 26 121 [6, 30, 58, 86, 114] 121) 1000036000030000550000180000192013652000000 = true := by kernel_rfl
theorem cnt27 : Nat.beq (allN 27 125 [6, 34, 62, 90, 118] 125) 1000036000030000550000188000192014628000000 = true := by kernel_rfl
theorem cnt28 : Nat.beq (allN 28 129 [6, 26, 50, 74, 98, 122] 129) 1000036000030000825000186000192015371000000 = true := by kernel_rfl
end Go.Proofs.Ytbbnagjfjgkgjaa.Pure

/- The same, part of the versions. -/
namespace Go.Proofs.Ytbbnagjfjgkgjaa.Pure
open Go.Proofs.Ytbbnagjfjgkgjaa.L
set_option maxRecDepth 1000000
theorem cnt29 : Nat.beq (allN 29 133 [6, 30, 54, 78, 102, 126] 133) 1000036000030000825000194000192016411000000 = true := by kernel_rfl
theorem cnt30 : Nat.beq (allN 30 137 [6, 26, 52, 78, 104, 130] 137) 1000036000030000825000202000192017483000000 = true := by kernel_rfl
theorem cnt31 : Nat.beq (allN 31 141 [6, 30, 56, 82, 108, 134] 141) 1000036000030000825000210000192018587000000 = true := by kernel_rfl
theorem cnt32 : Nat.beq (allN 32 145 [6, 34, 60, 86, 112, 138] 145) 1000036000030000825000218000192019723000000 = true := by kernel_rfl
theorem cnt33 : Nat.beq (allN 33 149 [6, 30, 58, 86, 114, 142] 149) 1000036000030000825000226000192020891000000 = true := by kernel_rfl
theorem cnt34 : Nat.beq (allN 34 153 [6, 34, 62, 90, 118, 146] 153) 1000036000030000825000234000192022091000000 = true := by kernel_rfl
end Go.Proofs.Ytbbnagjfjgkgjaa.Pure

/- The same, part of the versions. -/
namespace Go.Proofs.Ytbbnagjfjgkgjaa.Pure
open Go.Proofs.Ytbbnagjfjgkgjaa.L
set_option maxRecDepth 1000000
theorem cnt35 : Nat.beq (allN 35 157 [6, 30, 54, 78, 102, 126, 150] 157) 1000036000030001150000232000192023008000000 = true := by kernel_rfl
theorem cnt36 : Nat.beq (allN 36 161 [6, 24, 50, 76, 102, 128, 154] 161) 1000036000030001150000240000192024272000000 = true := by kernel_rfl
theorem cnt37 : Nat.beq (allN 37 165 [6, 28, 54, 80, 106, 132, 158] 165) 1000036000030001150000248000192025568000000 = true := by kernel_rfl
theorem cnt38 : Nat.beq (allN 38 169 [6, 32, 58, 84, 110, 136, 162] 169) 1000036000030001150000256000192026896000000 = true := by kernel_rfl
theorem cnt39 : Nat.beq (allN 39 173 [6, 26, 54, 82, 110, 138, 166] 173) 1000036000030001150000264000192028256000000 = true := by kernel_rfl
theorem cnt40 : Nat.beq (allN 40 177 [6, 30, 58, 86, 114, 142, 170] 177) 1000036000030001150000272000192029648000000 = true := by kernel_rfl
end Go.Proofs.Ytbbnagjfjgkgjaa.Pure
