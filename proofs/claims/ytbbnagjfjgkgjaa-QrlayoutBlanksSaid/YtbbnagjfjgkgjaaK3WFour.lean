/- A part of the print's own words that this claim's texts use. -/
import Derived.Test.YtbbnagjfjgkgjaaK3WTab
namespace Go.Proofs.YtbbnagjfjgkgjaaW.PrintLast
section
variable {P : Program} {ops : Array Oper} {Q : Exit → Act → World → Prop} {md : Region.Mode} {S : World → Prop} {ds : List Nat} {T : Bool × List (List Nat × List Nat)}
end
end Go.Proofs.YtbbnagjfjgkgjaaW.PrintLast
