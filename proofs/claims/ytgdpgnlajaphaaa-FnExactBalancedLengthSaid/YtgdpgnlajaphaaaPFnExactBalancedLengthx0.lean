/- Contracts of the functions named below: each call comes to exactly the answers of the Lean function of its name. Laid by a program of this session out of the translation. -/
import Derived.Test.YtgdpgnlajaphaaaProg
import Derived.Below
import Derived.Deep.Draws
import Derived.Deep.AppendLies
import Derived.Maps.AppendAt
import Derived.OwnWalk
import Derived.Laws.BytesArg
import Derived.Laws.MakeOwn
import Derived.Laws.OwnMore
import Derived.Deep.OwnRows
import Derived.Tactics
import Derived.Lib.ConvBytes
import Derived.Laws.Slices
import Derived.WalkKit
import Derived.KernelRfl
import Derived.RowKit3
import Derived.Deep.LoopGhost
import Derived.Deep.QuietTactic
import Derived.BigQuiet
import Derived.WideLaws
import Derived.Deep.DeepCutAuto
import Derived.Deep.CutBlock
import Derived.Deep.RegionHeld3
import Derived.Laws.Rows
import Derived.Lib.AppendStr
import Derived.ArgAppend
import Derived.Laws.IdiomCopy
import Derived.OrdersHeld
import Derived.Laws.BitsLemmas
import Derived.RowKit
import Derived.Test.YtgdpgnlajaphaaaWWords
import Derived.Test.YtgdpgnlajaphaaaWLast
import Derived.Test.YtgdpgnlajaphaaaWTab
import Derived.Test.YtgdpgnlajaphaaaWFour
import Derived.Test.YtgdpgnlajaphaaaWQPut
import Derived.Test.YtgdpgnlajaphaaaWApart
import Derived.Test.YtgdpgnlajaphaaaWArr
import Derived.Test.YtgdpgnlajaphaaaWZeros
import Derived.Test.YtgdpgnlajaphaaaWFoot
import Derived.Test.YtgdpgnlajaphaaaWKept
import Derived.Test.YtgdpgnlajaphaaaWShare
import Derived.Test.YtgdpgnlajaphaaaWN
import Derived.Test.YtgdpgnlajaphaaaWFootNe
import Derived.Test.YtgdpgnlajaphaaaWAt
import Derived.Test.YtgdpgnlajaphaaaWEqStruct
import Derived.Test.YtgdpgnlajaphaaaWRepsOne
import Derived.Test.YtgdpgnlajaphaaaWInv
import Derived.Test.YtgdpgnlajaphaaaWInvWords
import Derived.Test.YtgdpgnlajaphaaaWGuard
import Derived.Test.YtgdpgnlajaphaaaWNEv
import Derived.Test.YtgdpgnlajaphaaaWMore
namespace Go.Proofs.Ytgdpgnlajaphaaa.PFnExactBalancedLength
open Go.RowKit Go.Proofs.YtgdpgnlajaphaaaW.PrintWords Go.Proofs.YtgdpgnlajaphaaaW.PrintLast Go.Proofs.YtgdpgnlajaphaaaW.PrintMore
attribute [local go_sem] max2_int min2_int max_two min_two max_three min_three max_four min_four   -- for this text's walks alone
set_option linter.unusedVariables false
set_option linter.unusedSimpArgs false



def errW : Option Int → Value
  | none => .nilIface
  | some c => .iface 0 (.int .i64 c)
theorem errW_none : errW none = .nilIface := rfl
theorem errW_some (c : Int) : errW (some c) = .iface 0 (.int .i64 c) := rfl

-- the values' own types

end Go.Proofs.Ytgdpgnlajaphaaa.PFnExactBalancedLength
