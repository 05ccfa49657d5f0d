-- Written by a program of this session's (gprint.py over the kit's printer), with hand-written parts. Lean checks it.
import Derived.Test.YtpcpjlbfhbicaaaProg
import Derived.Below
import Derived.Deep.Draws
import Derived.Deep.AppendLies
import Derived.Maps.AppendAt
import Derived.OwnWalk
import Derived.Laws.BytesArg
import Derived.Laws.MakeOwn
import Derived.Laws.OwnMore
import Derived.Deep.OwnRows
import Derived.Tactics
import Derived.Lib.ConvBytes
import Derived.Laws.Slices
import Derived.WalkKit
import Derived.KernelRfl
import Derived.RowKit3
import Derived.Deep.LoopGhost
import Derived.Deep.QuietTactic
import Derived.BigQuiet
import Derived.WideLaws
import Derived.Deep.DeepCutAuto
import Derived.Deep.CutBlock
import Derived.Deep.RegionHeld3
import Derived.Laws.Rows
import Derived.Lib.AppendStr
import Derived.ArgAppend
import Derived.Laws.IdiomCopy
import Derived.OrdersHeld
import Derived.Laws.BitsLemmas
import Derived.RowKit
import Derived.Test.YtpcpjlbfhbicaaaWWords
import Derived.Test.YtpcpjlbfhbicaaaWLast
import Derived.Test.YtpcpjlbfhbicaaaWTab
import Derived.Test.YtpcpjlbfhbicaaaWFour
import Derived.Test.YtpcpjlbfhbicaaaWQPut
import Derived.Test.YtpcpjlbfhbicaaaWApart
import Derived.Test.YtpcpjlbfhbicaaaWArr
import Derived.Test.YtpcpjlbfhbicaaaWZeros
import Derived.Test.YtpcpjlbfhbicaaaWFoot
import Derived.Test.YtpcpjlbfhbicaaaWKept
import Derived.Test.YtpcpjlbfhbicaaaWShare
import Derived.Test.YtpcpjlbfhbicaaaWN
import Derived.Test.YtpcpjlbfhbicaaaWFootNe
import Derived.Test.YtpcpjlbfhbicaaaWAt
import Derived.Test.YtpcpjlbfhbicaaaWEqStruct
import Derived.Test.YtpcpjlbfhbicaaaWRepsOne
import Derived.Test.YtpcpjlbfhbicaaaWInv
import Derived.Test.YtpcpjlbfhbicaaaWInvWords
import Derived.Test.YtpcpjlbfhbicaaaWGuard
import Derived.Test.YtpcpjlbfhbicaaaWNEv
import Derived.Test.YtpcpjlbfhbicaaaWMore
namespace Go.Proofs.Ytpcpjlbfhbicaaa.PStyleProps
open Go.RowKit Go.Proofs.YtpcpjlbfhbicaaaW.PrintWords Go.Proofs.YtpcpjlbfhbicaaaW.PrintLast Go.Proofs.YtpcpjlbfhbicaaaW.PrintMore
attribute [local go_sem] max2_int min2_int max_two min_two max_three min_three max_four min_four   -- for this text's walks alone
set_option linter.unusedVariables false
set_option linter.unusedSimpArgs false



def errW : Option Int → Value
  | none => .nilIface
  | some c => .iface 0 (.int .i64 c)
theorem errW_none : errW none = .nilIface := rfl
theorem errW_some (c : Int) : errW (some c) = .iface 0 (.int .i64 c) := rfl

-- the values' own types

end Go.Proofs.Ytpcpjlbfhbicaaa.PStyleProps
