-- Written by a program of ours over the translation of this seat. Not trusted: Lean checks it.
import Derived.Test.YtidjaahpabppaaaProg
import Derived.Below
import Derived.Deep.Draws
import Derived.Deep.AppendLies
import Derived.Maps.AppendAt
import Derived.OwnWalk
import Derived.Laws.BytesArg
import Derived.Laws.MakeOwn
import Derived.Laws.OwnMore
import Derived.Deep.OwnRows
import Derived.Tactics
import Derived.Lib.ConvBytes
import Derived.Laws.Slices
import Derived.WalkKit
import Derived.KernelRfl
import Derived.RowKit3
import Derived.Deep.LoopGhost
import Derived.Deep.QuietTactic
import Derived.BigQuiet
import Derived.WideLaws
import Derived.Deep.DeepCutAuto
import Derived.Deep.CutBlock
import Derived.Deep.RegionHeld3
import Derived.Laws.Rows
import Derived.Lib.AppendStr
import Derived.ArgAppend
import Derived.Laws.IdiomCopy
import Derived.OrdersHeld
import Derived.Laws.BitsLemmas
import Derived.RowKit
import Derived.Test.YtidjaahpabppaaaWWords
import Derived.Test.YtidjaahpabppaaaWLast
import Derived.Test.YtidjaahpabppaaaWTab
import Derived.Test.YtidjaahpabppaaaWFour
import Derived.Test.YtidjaahpabppaaaWQPut
import Derived.Test.YtidjaahpabppaaaWApart
import Derived.Test.YtidjaahpabppaaaWArr
import Derived.Test.YtidjaahpabppaaaWZeros
import Derived.Test.YtidjaahpabppaaaWFoot
import Derived.Test.YtidjaahpabppaaaWKept
import Derived.Test.YtidjaahpabppaaaWShare
import Derived.Test.YtidjaahpabppaaaWN
import Derived.Test.YtidjaahpabppaaaWFootNe
import Derived.Test.YtidjaahpabppaaaWAt
import Derived.Test.YtidjaahpabppaaaWEqStruct
import Derived.Test.YtidjaahpabppaaaWRepsOne
import Derived.Test.YtidjaahpabppaaaWInv
import Derived.Test.YtidjaahpabppaaaWInvWords
import Derived.Test.YtidjaahpabppaaaWGuard
import Derived.Test.YtidjaahpabppaaaWNEv
import Derived.Test.YtidjaahpabppaaaWMore
namespace Go.Proofs.Ytidjaahpabppaaa.QRecurParts
open Go.RowKit Go.Proofs.YtidjaahpabppaaaW.PrintWords Go.Proofs.YtidjaahpabppaaaW.PrintLast Go.Proofs.YtidjaahpabppaaaW.PrintMore
attribute [local go_sem] max2_int min2_int max_two min_two max_three min_three max_four min_four   -- for this text's walks alone
set_option linter.unusedVariables false
set_option linter.unusedSimpArgs false



def errW : Option Int → Value
 | none => .nilIface
 | some c => .iface 0 (.int .i64 c)
theorem errW_none : errW none = .nilIface := rfl
theorem errW_some (c : Int) : errW (some c) = .iface 0 (.int .i64 c) := rfl

theorem info3 : (Try.prog.info? 3).map (fun i => (i.zero, i.size, i.bytes)) = some (some (.int .i64 0), 1, 8) := by kernel_rfl
-- the values' own types

end Go.Proofs.Ytidjaahpabppaaa.QRecurParts
