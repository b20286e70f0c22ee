-- Written by a program of ours over the translation of this seat. Not trusted: Lean checks it.
import Derived.Test.YtboddbgmgcjppaaProg
import Derived.Below
import Derived.Deep.Draws
import Derived.Deep.AppendLies
import Derived.Maps.AppendAt
import Derived.OwnWalk
import Derived.Laws.BytesArg
import Derived.Laws.MakeOwn
import Derived.Laws.OwnMore
import Derived.Deep.OwnRows
import Derived.Tactics
import Derived.Lib.ConvBytes
import Derived.Laws.Slices
import Derived.WalkKit
import Derived.KernelRfl
import Derived.RowKit3
import Derived.Deep.LoopGhost
import Derived.Deep.QuietTactic
import Derived.BigQuiet
import Derived.WideLaws
import Derived.Deep.DeepCutAuto
import Derived.Deep.CutBlock
import Derived.Deep.RegionHeld3
import Derived.Laws.Rows
import Derived.Lib.AppendStr
import Derived.ArgAppend
import Derived.Laws.IdiomCopy
import Derived.OrdersHeld
import Derived.Laws.BitsLemmas
import Derived.RowKit
import Derived.Test.YtboddbgmgcjppaaWWords
import Derived.Test.YtboddbgmgcjppaaWLast
import Derived.Test.YtboddbgmgcjppaaWTab
import Derived.Test.YtboddbgmgcjppaaWFour
import Derived.Test.YtboddbgmgcjppaaWQPut
import Derived.Test.YtboddbgmgcjppaaWApart
import Derived.Test.YtboddbgmgcjppaaWArr
import Derived.Test.YtboddbgmgcjppaaWZeros
import Derived.Test.YtboddbgmgcjppaaWFoot
import Derived.Test.YtboddbgmgcjppaaWKept
import Derived.Test.YtboddbgmgcjppaaWShare
import Derived.Test.YtboddbgmgcjppaaWN
import Derived.Test.YtboddbgmgcjppaaWFootNe
import Derived.Test.YtboddbgmgcjppaaWAt
import Derived.Test.YtboddbgmgcjppaaWEqStruct
import Derived.Test.YtboddbgmgcjppaaWRepsOne
import Derived.Test.YtboddbgmgcjppaaWInv
import Derived.Test.YtboddbgmgcjppaaWInvWords
import Derived.Test.YtboddbgmgcjppaaWGuard
import Derived.Test.YtboddbgmgcjppaaWNEv
import Derived.Test.YtboddbgmgcjppaaWMore
namespace Go.Proofs.Ytboddbgmgcjppaa.QFracNearest
open Go.RowKit Go.Proofs.YtboddbgmgcjppaaW.PrintWords Go.Proofs.YtboddbgmgcjppaaW.PrintLast Go.Proofs.YtboddbgmgcjppaaW.PrintMore
attribute [local go_sem] max2_int min2_int max_two min_two max_three min_three max_four min_four   -- for this text's walks alone
set_option linter.unusedVariables false
set_option linter.unusedSimpArgs false



def errW : Option Int → Value
 | none => .nilIface
 | some c => .iface 0 (.int .i64 c)
theorem errW_none : errW none = .nilIface := rfl
theorem errW_some (c : Int) : errW (some c) = .iface 0 (.int .i64 c) := rfl

-- the values' own types

end Go.Proofs.Ytboddbgmgcjppaa.QFracNearest
