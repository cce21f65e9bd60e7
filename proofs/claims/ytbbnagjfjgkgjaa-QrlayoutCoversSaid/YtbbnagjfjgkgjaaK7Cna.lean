/- How many modules of each purpose: told by the kernel, version by version. -/
import Derived.Test.YtbbnagjfjgkgjaaK7Puc
namespace Go.Proofs.Ytbbnagjfjgkgjaa.Pure
open Go.Proofs.Ytbbnagjfjgkgjaa.L
def alN (s : Nat) (x b : Nat) : List Nat → Bool
  | [] => false
  | a :: r => (Nat.ble a (x + 2) && Nat.ble x (a + 2) && !((Nat.beq a 6 && (Nat.beq b 6 || Nat.beq b (s - 7))) || (Nat.beq b 6 && Nat.beq a (s - 7)))) || alN s x b r
def nearN (y : Nat) : List Nat → Nat
  | [] => 0
  | b :: r => if (Nat.ble b (y + 2) && Nat.ble y (b + 2)) = true then b else nearN y r
def cellN (v s b : Nat) (l : List Nat) (y x : Nat) : Nat :=
  cond ((Nat.ble x 7 && Nat.ble y 7) || (Nat.ble (s - 8) x && Nat.ble y 7) || (Nat.ble x 7 && Nat.ble (s - 8) y)) 2
    (cond (cond (Nat.beq b 0) false (alN s x b l)) 4
      (cond (Nat.beq x 6 || Nat.beq y 6) 3
        (cond (Nat.beq x 8 && Nat.beq y (s - 8)) 7
          (cond ((Nat.beq y 8 && (Nat.ble x 8 || Nat.ble (s - 8) x)) || (Nat.beq x 8 && (Nat.ble y 8 || Nat.ble (s - 7) y))) 5
            (cond (Nat.ble 7 v && ((Nat.ble (s - 11) x && Nat.ble x (s - 9) && Nat.ble y 5) || (Nat.ble (s - 11) y && Nat.ble y (s - 9) && Nat.ble x 5))) 6 1)))))
def rowN (f : Nat → Nat) : Nat → Nat
  | 0 => 0
  | n + 1 => 1000000 ^ f n + rowN f n
def allN (v s : Nat) (l : List Nat) : Nat → Nat
  | 0 => 0
  | y + 1 => rowN (cellN v s (nearN y l) l y) s + allN v s l y
end Go.Proofs.Ytbbnagjfjgkgjaa.Pure
