/- Proved: the evaluator's run of UndoKnown ends in true (reckoned by the kernel); no condition. -/
import Derived.Test.YtdlinjdoggencaaGreatDoorEvT
namespace Go.Proofs.YtdlinjdoggencaaGreatDoor.Run
open Go.Ev
set_option maxRecDepth 1000000 in
theorem runUndoKnown : isTrue (call Tryz.prog K XT 1000 5 [] .lf 200) = true := by decide +kernel
theorem callsUndoKnown (W : World) : Calls Tryz.prog 5 #[] W fun e W' => e = .returned (.bool true) ∧ Go.RowKit.Below W.heap.size W W' :=
  call_true (σ := fun _ => undef) named mixed (rows _) (by kernel_rfl) .nil runUndoKnown W
end Go.Proofs.YtdlinjdoggencaaGreatDoor.Run
