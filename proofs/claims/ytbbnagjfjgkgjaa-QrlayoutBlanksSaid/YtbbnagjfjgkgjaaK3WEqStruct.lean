/- A part of the print's own words that this claim's texts use. -/
import Derived.Test.YtbbnagjfjgkgjaaK3WWords
import Derived.Laws.StructEq
namespace Go.Proofs.YtbbnagjfjgkgjaaW.PrintWords
open Go.RowKit
section
variable {P : Program} {d : Nat} {xs ys : Array Value} {f : Field} {fs : List Field} {a b : Value} {r s : Bool} {w : World}
end
end Go.Proofs.YtbbnagjfjgkgjaaW.PrintWords
