-- Written by a program of this session out of the kit's print of the loaded functions (see wip/).
import Derived.Test.YthhdekfnalioiaaProg
import Derived.Below
import Derived.Deep.Draws
import Derived.Deep.AppendLies
import Derived.Maps.AppendAt
import Derived.OwnWalk
import Derived.Laws.BytesArg
import Derived.Laws.MakeOwn
import Derived.Laws.OwnMore
import Derived.Deep.OwnRows
import Derived.Tactics
import Derived.Lib.ConvBytes
import Derived.Laws.Slices
import Derived.WalkKit
import Derived.KernelRfl
import Derived.RowKit3
import Derived.Deep.LoopGhost
import Derived.Deep.QuietTactic
import Derived.BigQuiet
import Derived.WideLaws
import Derived.Deep.DeepCutAuto
import Derived.Deep.CutBlock
import Derived.Deep.RegionHeld3
import Derived.Laws.Rows
import Derived.Lib.AppendStr
import Derived.ArgAppend
import Derived.Laws.IdiomCopy
import Derived.OrdersHeld
import Derived.Laws.BitsLemmas
import Derived.RowKit
import Derived.Test.YthhdekfnalioiaaWWords
import Derived.Test.YthhdekfnalioiaaWLast
import Derived.Test.YthhdekfnalioiaaWTab
import Derived.Test.YthhdekfnalioiaaWFour
import Derived.Test.YthhdekfnalioiaaWQPut
import Derived.Test.YthhdekfnalioiaaWApart
import Derived.Test.YthhdekfnalioiaaWArr
import Derived.Test.YthhdekfnalioiaaWZeros
import Derived.Test.YthhdekfnalioiaaWFoot
import Derived.Test.YthhdekfnalioiaaWKept
import Derived.Test.YthhdekfnalioiaaWShare
import Derived.Test.YthhdekfnalioiaaWN
import Derived.Test.YthhdekfnalioiaaWFootNe
import Derived.Test.YthhdekfnalioiaaWAt
import Derived.Test.YthhdekfnalioiaaWEqStruct
import Derived.Test.YthhdekfnalioiaaWRepsOne
import Derived.Test.YthhdekfnalioiaaWInv
import Derived.Test.YthhdekfnalioiaaWInvWords
import Derived.Test.YthhdekfnalioiaaWGuard
import Derived.Test.YthhdekfnalioiaaWNEv
import Derived.Test.YthhdekfnalioiaaWMore
import Derived.Test.YthhdekfnalioiaaLen64
import Derived.WalkMore
namespace Go.Proofs.Ythhdekfnalioiaa.B
open Go.RowKit Go.Proofs.YthhdekfnalioiaaW.PrintWords Go.Proofs.YthhdekfnalioiaaW.PrintLast Go.Proofs.YthhdekfnalioiaaW.PrintMore
attribute [local go_sem] max2_int min2_int max_two min_two max_three min_three max_four min_four   -- for this text's walks alone
set_option linter.unusedVariables false
set_option linter.unusedSimpArgs false



def errW : Option Int → Value
  | none => .nilIface
  | some c => .iface 0 (.int .i64 c)
theorem errW_none : errW none = .nilIface := rfl
theorem errW_some (c : Int) : errW (some c) = .iface 0 (.int .i64 c) := rfl

-- the values' own types

end Go.Proofs.Ythhdekfnalioiaa.B
