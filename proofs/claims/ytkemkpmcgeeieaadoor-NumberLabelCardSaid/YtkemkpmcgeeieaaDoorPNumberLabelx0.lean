-- Written by a program of this session's (gprint.py over the kit's printer), with hand-written parts. Lean checks it.
import Derived.Test.YtkemkpmcgeeieaaDoorProg
import Derived.Below
import Derived.Deep.Draws
import Derived.Deep.AppendLies
import Derived.Maps.AppendAt
import Derived.OwnWalk
import Derived.Laws.BytesArg
import Derived.Laws.MakeOwn
import Derived.Laws.OwnMore
import Derived.Deep.OwnRows
import Derived.Tactics
import Derived.Lib.ConvBytes
import Derived.Laws.Slices
import Derived.WalkKit
import Derived.KernelRfl
import Derived.RowKit3
import Derived.Deep.LoopGhost
import Derived.Deep.QuietTactic
import Derived.BigQuiet
import Derived.WideLaws
import Derived.Deep.DeepCutAuto
import Derived.Deep.CutBlock
import Derived.Deep.RegionHeld3
import Derived.Laws.Rows
import Derived.Lib.AppendStr
import Derived.ArgAppend
import Derived.Laws.IdiomCopy
import Derived.OrdersHeld
import Derived.Laws.BitsLemmas
import Derived.RowKit
import Derived.Test.YtkemkpmcgeeieaaDoorItoa
import Derived.Test.YtkemkpmcgeeieaaDoorLetA
import Derived.Test.YtkemkpmcgeeieaaDoorRom
import Derived.Test.YtkemkpmcgeeieaaDoorWWords
import Derived.Test.YtkemkpmcgeeieaaDoorWLast
import Derived.Test.YtkemkpmcgeeieaaDoorWTab
import Derived.Test.YtkemkpmcgeeieaaDoorWFour
import Derived.Test.YtkemkpmcgeeieaaDoorWQPut
import Derived.Test.YtkemkpmcgeeieaaDoorWApart
import Derived.Test.YtkemkpmcgeeieaaDoorWArr
import Derived.Test.YtkemkpmcgeeieaaDoorWZeros
import Derived.Test.YtkemkpmcgeeieaaDoorWFoot
import Derived.Test.YtkemkpmcgeeieaaDoorWKept
import Derived.Test.YtkemkpmcgeeieaaDoorWShare
import Derived.Test.YtkemkpmcgeeieaaDoorWN
import Derived.Test.YtkemkpmcgeeieaaDoorWFootNe
import Derived.Test.YtkemkpmcgeeieaaDoorWAt
import Derived.Test.YtkemkpmcgeeieaaDoorWEqStruct
import Derived.Test.YtkemkpmcgeeieaaDoorWRepsOne
import Derived.Test.YtkemkpmcgeeieaaDoorWInv
import Derived.Test.YtkemkpmcgeeieaaDoorWInvWords
import Derived.Test.YtkemkpmcgeeieaaDoorWGuard
import Derived.Test.YtkemkpmcgeeieaaDoorWNEv
import Derived.Test.YtkemkpmcgeeieaaDoorWMore
namespace Go.Proofs.YtkemkpmcgeeieaaDoor.PNumberLabel
open Go.RowKit Go.Proofs.YtkemkpmcgeeieaaDoorW.PrintWords Go.Proofs.YtkemkpmcgeeieaaDoorW.PrintLast Go.Proofs.YtkemkpmcgeeieaaDoorW.PrintMore
attribute [local go_sem] max2_int min2_int max_two min_two max_three min_three max_four min_four   -- for this text's walks alone
set_option linter.unusedVariables false
set_option linter.unusedSimpArgs false



def errW : Option Int → Value
  | none => .nilIface
  | some c => .iface 0 (.int .i64 c)
theorem errW_none : errW none = .nilIface := rfl
theorem errW_some (c : Int) : errW (some c) = .iface 0 (.int .i64 c) := rfl

theorem info3 : (Tryd.prog.info? 3).map (fun i => (i.zero, i.size, i.bytes)) = some (some (.int .i64 0), 1, 8) := by kernel_rfl
theorem info5 : (Tryd.prog.info? 5).map (fun i => (i.zero, i.size, i.bytes)) = some (some (.int .u8 0), 1, 1) := by kernel_rfl
theorem info9 : (Tryd.prog.info? 9).map (fun i => (i.zero, i.size, i.bytes)) = some (some (.string ⟨#[]⟩), 1, 16) := by kernel_rfl
-- the values' own types

end Go.Proofs.YtkemkpmcgeeieaaDoor.PNumberLabel
