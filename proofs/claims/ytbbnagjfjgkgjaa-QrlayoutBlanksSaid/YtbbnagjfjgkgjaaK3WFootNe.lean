/- A part of the print's own words that this claim's texts use. -/
import Derived.Test.YtbbnagjfjgkgjaaK3WN
namespace Go.Proofs.YtbbnagjfjgkgjaaW.PrintWords
open Go.RowKit
namespace Kd
section
variable {α : Type} {d : Kd α} {W : World} {g n : Nat} {S ok : Nat → Prop} {A : Option Addr} {ad : Addr} {xs : List α}
end
end Kd
end Go.Proofs.YtbbnagjfjgkgjaaW.PrintWords
