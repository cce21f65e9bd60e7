/- A part of the print's own words that this claim's texts use. -/
import Derived.Test.YtbbnagjfjgkgjaaK3WInv
import Derived.Test.YtbbnagjfjgkgjaaK3WFootNe
namespace Go.Proofs.YtbbnagjfjgkgjaaW.PrintWords
open Go.RowKit
end Go.Proofs.YtbbnagjfjgkgjaaW.PrintWords
namespace Go.Proofs.YtbbnagjfjgkgjaaW.PrintLast
section
variable {ops : Array Oper} {a : Act} {o og : Oper} {g : Nat} {t : Tmp} {u : Bool}
end
end Go.Proofs.YtbbnagjfjgkgjaaW.PrintLast
